/- A part of the proof: the texts of this claim, packed by a program of this session (wip/pack.py). -/
import Derived.Lib.IndexBytes
import Derived.Laws.StructEq
import Derived.Lib.Join
import Derived.Lib.SplitLaws
import Derived.Lib.IndexAny
import Derived.Lib.SlTrimSet
import Derived.KernelRfl
import Derived.Lib.IndexLaws
import Derived.Test.YtmocooihkobdjaaDoorGk1
import Derived.Test.YtmocooihkobdjaaDoorGk2
import Derived.Test.YtmocooihkobdjaaDoorGk3
section
namespace Go.Proofs.YtmocooihkobdjaaDoor.G
open Go.RowKit Go.Proofs.YtmocooihkobdjaaDoorW.PrintWords Go.Proofs.YtmocooihkobdjaaDoorW.PrintLast Go.Proofs.YtmocooihkobdjaaDoorW.PrintMore
attribute [local go_sem] max2_int min2_int max_two min_two max_three min_three max_four min_four
set_option linter.unusedVariables false
set_option linter.unusedSimpArgs false
def depotlaw24_awake.f (k : Nat)  : Option (Bool) := (request_Read.f k (⟨#[105, 110, 115, 116, 97, 108, 108, 32, 97, 97, 32, 124, 32, 98, 98, 10, 35, 32, 120, 10, 97, 118, 111, 105, 100, 32, 99, 99, 10]⟩ : ByteArray)).bind fun bt232 => (if bt232.2.2.2.1 = 0 then (if bt232.2.2.2.2 = 0 then (if (bt232.1.length : Int) = 1 then (if 0 < (bt232.1.length : Int) then (if ((rd_L3 bt232.1 0).length : Int) = 2 then (if 1 < ((rd_L3 bt232.1 0).length : Int) then (if ((rd_T46 (rd_L3 bt232.1 0) 1).f0).toList = ([98, 98] : List UInt8) then (if (bt232.2.2.1.length : Int) = 1 then (if 0 < (bt232.2.2.1.length : Int) then (if (rd_T48 bt232.2.2.1 0).f0 = true then (some (((rd_T48 bt232.2.2.1 0).f1.f0).toList == ([99, 99] : List UInt8))) else (some false)) else (none)) else (some false)) else (some false)) else (none)) else (some false)) else (none)) else (some false)) else (some false)) else (some false))
theorem depotlaw24_awake.mono : ∀ k, LeO (depotlaw24_awake.f k ) (depotlaw24_awake.f (k + 1) ) := by
 intro  k
 unfold depotlaw24_awake.f
 repeat' first
   | (with_reducible exact request_Read.mono _ _)
   | (with_reducible exact LeO.refl _)
   | (with_reducible exact LeO.none _)
   | (with_reducible refine LeO.ite ?_ ?_)
   | (with_reducible refine LeO.bind ?_ (fun _ => ?_))
   | exact request_Read.mono _ _
   | exact LeO.none _
   | refine LeO.ite ?_ ?_
   | refine LeO.bind ?_ (fun _ => ?_)
set_option maxHeartbeats 8000000 in
set_option maxRecDepth 100000 in
theorem depotlaw24_awake.calls (k : Nat)  (r : Bool) (w : World) (hG : GG w) (h : depotlaw24_awake.f k  = some r) :
  Calls Tryd.prog 21 #[] w fun e w' => e = .returned (.bool r) ∧ Below w.heap.size w w' := by
 have hu26 := Tryd.underlying26
 have HB := Aside0.mk (Below.refl w.heap.size w)
 have HG := Aside0.mk hG
 clear hG
 have H : ((request_Read.f k (⟨#[105, 110, 115, 116, 97, 108, 108, 32, 97, 97, 32, 124, 32, 98, 98, 10, 35, 32, 120, 10, 97, 118, 111, 105, 100, 32, 99, 99, 10]⟩ : ByteArray)).bind fun bt232 => (if bt232.2.2.2.1 = 0 then (if bt232.2.2.2.2 = 0 then (if (bt232.1.length : Int) = 1 then (if 0 < (bt232.1.length : Int) then (if ((rd_L3 bt232.1 0).length : Int) = 2 then (if 1 < ((rd_L3 bt232.1 0).length : Int) then (if ((rd_T46 (rd_L3 bt232.1 0) 1).f0).toList = ([98, 98] : List UInt8) then (if (bt232.2.2.1.length : Int) = 1 then (if 0 < (bt232.2.2.1.length : Int) then (if (rd_T48 bt232.2.2.1 0).f0 = true then (some (((rd_T48 bt232.2.2.1 0).f1.f0).toList == ([99, 99] : List UInt8))) else (some false)) else (none)) else (some false)) else (some false)) else (none)) else (some false)) else (none)) else (some false)) else (some false)) else (some false))) = some r := h
 clear h
 replace H := Option.bind_eq_some_iff.mp H
 obtain ⟨⟨t232, t235, t238, t241, t242⟩, A10, H⟩ := H
 replace H : (if t241 = 0 then (if t242 = 0 then (if (t232.length : Int) = 1 then (if 0 < (t232.length : Int) then (if ((rd_L3 t232 0).length : Int) = 2 then (if 1 < ((rd_L3 t232 0).length : Int) then (if ((rd_T46 (rd_L3 t232 0) 1).f0).toList = ([98, 98] : List UInt8) then (if (t238.length : Int) = 1 then (if 0 < (t238.length : Int) then (if (rd_T48 t238 0).f0 = true then (some (((rd_T48 t238 0).f1.f0).toList == ([99, 99] : List UInt8))) else (some false)) else (none)) else (some false)) else (some false)) else (none)) else (some false)) else (none)) else (some false)) else (some false)) else (some false)) = some r := H
 have A1 := Aside0.mk A10
 clear A10
 by_cases c2 : t241 = 0
 ·rw [if_pos c2] at H
  have c2b0 : (t241 == 0) = true := beq_iff_eq.mpr c2
  have c2b1 : (t241 != 0) = false := bne_eq_false_iff_eq.mpr c2
  clear c2
  by_cases c3 : t242 = 0
  ·rw [if_pos c3] at H
   have c3b0 : (t242 == 0) = true := beq_iff_eq.mpr c3
   have c3b1 : (t242 != 0) = false := bne_eq_false_iff_eq.mpr c3
   clear c3
   by_cases c4 : (t232.length : Int) = 1
   ·rw [if_pos c4] at H
    have c4b0 : ((t232.length : Int) == 1) = true := beq_iff_eq.mpr c4
    have c4b1 : ((t232.length : Int) != 1) = false := bne_eq_false_iff_eq.mpr c4
    clear c4
    by_cases c5 : 0 < (t232.length : Int)
    ·rw [if_pos c5] at H
     have c5b0 : decide (0 < (t232.length : Int)) = true := decide_eq_true c5
     have c5b1 : decide (0 < t232.length) = true := decide_eq_true (by omega)
     clear c5
     by_cases c6 : ((rd_L3 t232 0).length : Int) = 2
     ·rw [if_pos c6] at H
      have c6b0 : (((rd_L3 t232 0).length : Int) == 2) = true := beq_iff_eq.mpr c6
      have c6b1 : (((rd_L3 t232 0).length : Int) != 2) = false := bne_eq_false_iff_eq.mpr c6
      clear c6
      by_cases c7 : 1 < ((rd_L3 t232 0).length : Int)
      ·rw [if_pos c7] at H
       have c7b0 : decide (1 < ((rd_L3 t232 0).length : Int)) = true := decide_eq_true c7
       have c7b1 : decide (1 < (rd_L3 t232 0).length) = true := decide_eq_true (by omega)
       clear c7
       by_cases c8 : ((rd_T46 (rd_L3 t232 0) 1).f0).toList = ([98, 98] : List UInt8)
       ·rw [if_pos c8] at H
        have c8b0 : (((rd_T46 (rd_L3 t232 0) 1).f0).toList == ([98, 98] : List UInt8)) = true := beq_iff_eq.mpr c8
        have c8b1 : (((rd_T46 (rd_L3 t232 0) 1).f0).toList != ([98, 98] : List UInt8)) = false := bne_eq_false_iff_eq.mpr c8
        clear c8
        by_cases c9 : (t238.length : Int) = 1
        ·rw [if_pos c9] at H
         have c9b0 : ((t238.length : Int) == 1) = true := beq_iff_eq.mpr c9
         have c9b1 : ((t238.length : Int) != 1) = false := bne_eq_false_iff_eq.mpr c9
         clear c9
         by_cases c10 : 0 < (t238.length : Int)
         ·rw [if_pos c10] at H
          have c10b0 : decide (0 < (t238.length : Int)) = true := decide_eq_true c10
          have c10b1 : decide (0 < t238.length) = true := decide_eq_true (by omega)
          clear c10
          obtain ⟨bq11, hbq11⟩ : ∃ b_ : Bool, b_ = ((rd_T48 t238 0).f0) := ⟨_, rfl⟩
          replace H : (if bq11 = true then (some (((rd_T48 t238 0).f1.f0).toList == ([99, 99] : List UInt8))) else (some false)) = some r := by rw [← hbq11] at H; exact H
          have Nbq11 := Aside0.mk hbq11
          clear hbq11
          by_cases c12 : bq11 = true
          ·subst c12
           have H1 : (some (((rd_T48 t238 0).f1.f0).toList == ([99, 99] : List UInt8))) = some r := by rw [if_pos rfl] at H; exact H
           clear H
           have H := H1
           clear H1
           obtain rfl := Option.some.inj H
           go_enter Tryd.func21, Tryd.ntmps21
           go_wp2_with (first | ((with_reducible refine gate_callee (f := 19) rfl ?_); refine goesL_ (some 5) rfl rfl Tryd.func19 (by kernel_rfl) rfl #[.string (⟨#[105, 110, 115, 116, 97, 108, 108, 32, 97, 97, 32, 124, 32, 98, 98, 10, 35, 32, 120, 10, 97, 118, 111, 105, 100, 32, 99, 99, 10]⟩ : ByteArray)] rfl (by (try simp only [List.map_toArray, List.map_cons, List.map_nil]); first | done | rfl | (simp only [List.length_drop, List.length_take]; rfl) | (simp; done)) ?_; (with_reducible refine (request_Read.calls k (⟨#[105, 110, 115, 116, 97, 108, 108, 32, 97, 97, 32, 124, 32, 98, 98, 10, 35, 32, 120, 10, 97, 118, 111, 105, 100, 32, 99, 99, 10]⟩ : ByteArray) t232 t235 t238 t241 t242 _ ?side1 A1.out).mono ?_); (case side1 => exact GG.below HG.out (W0 HB.out)); rintro e w13 ⟨v233, v236, v239, rfl, ho0, ho1, ho2, hb⟩; refine ⟨_, rfl, ?_⟩; have n0_ := Aside0.mk (Kd.N_lower (Kd.N_mono (ok' := fun k_ => some k_ ≠ (v236 : Value).ownBlock ∧ some k_ ≠ (v239 : Value).ownBlock) ho0 (fun k_ hk_ => ⟨hk_.2.1, hk_.2.2⟩)) (below_size (W0 HB.out))); have n1_ := Aside0.mk (Kd.R_lower (Kd.R_mono (ok' := fun k_ => True) ho1 (fun _ hk_ => trivial)) (below_size (W0 HB.out))); have n2_ := Aside0.mk (Kd.R_lower (Kd.R_mono (ok' := fun k_ => True) ho2 (fun _ hk_ => trivial)) (below_size (W0 HB.out))); have n3_ := Aside0.mk (below_step (W0 HB.out) hb); clear HB; have HO234 := n0_; have HO237 := n1_; have HO240 := n2_; have HB := n3_; clear n0_ n1_ n2_ n3_; (try clear hb); (try clear hb2); (try clear hk); (try clear hi); (try clear ho0); (try clear ho1); (try clear ho2)) | ((with_reducible refine gate_dst (N := 1) rfl ?_); (try (refine gate_guard (by rfl) ?_; dsimp only)); refine box_event ?hg (N := 1) ?hd (cs := #[.slice none 0 0, .slice none 0 0, .slice none 0 0]) (t := 26) ?hr ?_; (case hd => rfl); (case hg => rfl); (case hr => first | (go_simp; done) | (go_simp; rfl)); intro gb243 hg w14 hbox hb; have n0_ := Aside0.mk (Kd.N_below (Kd.N_elderB (Nq HO234.out) gb243 (Nat.le_of_eq hg.symm)) hb); have n1_ := Aside0.mk (Kd.R_below (Rq HO237.out) hb); have n2_ := Aside0.mk (Kd.R_below (Rq HO240.out) hb); have n3_ := Aside0.mk (below_step (W0 HB.out) hb); have n4_ := Aside0.mk (hbox); have n5_ := Aside0.mk ((by rw [hg]; exact (below_size (W0 HB.out)) : w.heap.size ≤ gb243)); have n6_ := Aside0.mk ((by rw [hg]; exact (below_size (W0 HB.out)) : w.heap.size ≤ gb243)); clear HO234; clear HO237; clear HO240; clear HB; have HO234 := n0_; have HO237 := n1_; have HO240 := n2_; have HB := n3_; have BK243 := n4_; have GW243 := n5_; have GE243 := n6_; clear n0_ n1_ n2_ n3_ n4_ n5_ n6_; clear hb hbox hg; obtain ⟨Ao15, co15, eo15⟩ := Kd.N_slice HO234.out; subst eo15; have hcz16_0 : w14.cell? ⟨gb243, 0, none⟩ = some (.slice none 0 0) := (blk_cell BK243.out 0).trans rfl; have hcz16_1 : w14.cell? ⟨gb243, 1, none⟩ = some (.slice none 0 0) := (blk_cell BK243.out 1).trans rfl; have hcz16_2 : w14.cell? ⟨gb243, 2, none⟩ = some (.slice none 0 0) := (blk_cell BK243.out 2).trans rfl; have hfz16_0 := blk_frozen BK243.out 0; have hfz16_1 := blk_frozen BK243.out 1; have hfz16_2 := blk_frozen BK243.out 2; obtain ⟨Ao17, co17, eo17⟩ := Kd.R_slice HO237.out; subst eo17; obtain ⟨Ao18, co18, eo18⟩ := Kd.R_slice HO240.out; subst eo18) | ((with_reducible refine gate_store (t := 26) (p := 1) rfl ?_); refine store_event (t := 26) (p := 1) (v := ?vo_w19) (w1 := (((w14.setCell ⟨gb243, 0, none⟩ (.slice Ao15 t232.length co15)).setCell ⟨gb243, 1, none⟩ (.slice Ao17 t235.length co17)).setCell ⟨gb243, 2, none⟩ (.slice Ao18 t238.length co18))) ?hg ?ho ?hn ?hr ?_; (case ho => rfl); (case hg => rfl); (case hn => rfl); (case hr => first | (go_simp; done) | (go_simp; rfl)); intro w19 hw; have n0_ : Aside0 (Kd.N (Kd.slice 46 k46) 23 w19 w.heap.size (fun k_ => some k_ ≠ (.slice Ao17 t235.length co17 : Value).ownBlock ∧ some k_ ≠ (.slice Ao18 t238.length co18 : Value).ownBlock ∧ k_ ≠ gb243) (.slice Ao15 t232.length co15) t232) := ⟨(by rw [hw]; exact (by (with_reducible repeat (first | apply Kd.N_alloc | apply Kd.N_drewN | apply Kd.N_drew)); exact Kd.N_mono (Kd.N_far (p := ⟨gb243, 2, none⟩) (Kd.N_far (p := ⟨gb243, 1, none⟩) (Kd.N_far (p := ⟨gb243, 0, none⟩) (Kd.N_mono HO234.out (fun k_ hk => (⟨hk, hk.2⟩ : _ ∧ k_ ≠ gb243))) (fun _ hk => hk.2) (.slice Ao15 t232.length co15)) (fun _ hk => hk.2) (.slice Ao17 t235.length co17)) (fun _ hk => hk.2) (.slice Ao18 t238.length co18)) (fun _ hk => ⟨hk.1.1.1, ⟨hk.1.1.2, hk.1.2⟩⟩)))⟩; have n1_ : Aside0 (Kd.R k46 46 w19 w.heap.size (fun _ => True) (.slice Ao17 t235.length co17) t235) := ⟨(by rw [hw]; exact (by (with_reducible repeat (first | apply Kd.R_alloc | apply Kd.R_drewN | apply Kd.R_drew)); exact Kd.R_mono (Kd.R_far (p := ⟨gb243, 2, none⟩) (Kd.R_far (p := ⟨gb243, 1, none⟩) (Kd.R_far (p := ⟨gb243, 0, none⟩) (Rt HO237.out BK243.out) (fun _ hk => hk.2) (.slice Ao15 t232.length co15)) (fun _ hk => hk.2) (.slice Ao17 t235.length co17)) (fun _ hk => hk.2) (.slice Ao18 t238.length co18)) (fun _ hk => trivial)))⟩; have n2_ : Aside0 (Kd.R k48 48 w19 w.heap.size (fun _ => True) (.slice Ao18 t238.length co18) t238) := ⟨(by rw [hw]; exact (by (with_reducible repeat (first | apply Kd.R_alloc | apply Kd.R_drewN | apply Kd.R_drew)); exact Kd.R_mono (Kd.R_far (p := ⟨gb243, 2, none⟩) (Kd.R_far (p := ⟨gb243, 1, none⟩) (Kd.R_far (p := ⟨gb243, 0, none⟩) (Rt HO240.out BK243.out) (fun _ hk => hk.2) (.slice Ao15 t232.length co15)) (fun _ hk => hk.2) (.slice Ao17 t235.length co17)) (fun _ hk => hk.2) (.slice Ao18 t238.length co18)) (fun _ hk => trivial)))⟩; have n3_ : Aside0 (w19.heap[gb243]? = some (.cells #[.slice Ao15 t232.length co15, .slice Ao17 t235.length co17, .slice Ao18 t238.length co18] 26 (0, 0))) := ⟨(by rw [hw]; exact (by (with_reducible repeat (first | refine blk_drewN ?_ _ | refine blk_drew ?_ | refine blk_alloc ?_ _)); refine blk_put (cs := #[.slice Ao15 t232.length co15, .slice Ao17 t235.length co17, .slice none 0 0]) ?_ 2 _ rfl; (with_reducible repeat (first | refine blk_drewN ?_ _ | refine blk_drew ?_ | refine blk_alloc ?_ _)); refine blk_put (cs := #[.slice Ao15 t232.length co15, .slice none 0 0, .slice none 0 0]) ?_ 1 _ rfl; (with_reducible repeat (first | refine blk_drewN ?_ _ | refine blk_drew ?_ | refine blk_alloc ?_ _)); refine blk_put (cs := #[.slice none 0 0, .slice none 0 0, .slice none 0 0]) ?_ 0 _ rfl; (with_reducible repeat (first | refine blk_drewN ?_ _ | refine blk_drew ?_ | refine blk_alloc ?_ _)); exact BK243.out))⟩; have n4_ : Aside0 (Below w.heap.size w w19) := ⟨(by rw [hw]; exact (W1 HB.out GE243.out))⟩; clear hw; clear HO234; clear HO237; clear HO240; clear BK243; clear HB; have HO234 := n0_; have HO237 := n1_; have HO240 := n2_; have BK243 := n3_; have HB := n4_; clear n0_ n1_ n2_ n3_ n4_; have hcz20_0 : w19.cell? ⟨gb243, 0, none⟩ = some (.slice Ao15 t232.length co15) := (blk_cell BK243.out 0).trans rfl; have hcz20_1 : w19.cell? ⟨gb243, 1, none⟩ = some (.slice Ao17 t235.length co17) := (blk_cell BK243.out 1).trans rfl; have hcz20_2 : w19.cell? ⟨gb243, 2, none⟩ = some (.slice Ao18 t238.length co18) := (blk_cell BK243.out 2).trans rfl; have hfz20_0 := blk_frozen BK243.out 0; have hfz20_1 := blk_frozen BK243.out 1; have hfz20_2 := blk_frozen BK243.out 2; have p244 : 0 ≤ (0 : Int) := (by omega); have q244 : 0 < (t232.length : Int) := of_decide_eq_true (by first | (with_reducible assumption) | assumption); obtain ⟨ad244, A244_0, c244_0, e244, hx244_0, hl244_0, hi244_0⟩ := at_L3 (Kd.N_reads' HO234.out).2.2 0 p244 q244; cases e244; obtain ⟨ce244, hce244, hMe244, hcc244⟩ := Kd.N_get HO234.out [] 0 p244 (by first | exact q244 | exact of_decide_eq_true (by first | (with_reducible assumption) | assumption) | (have e_ := (Kd.N_reads' HO234.out).1; omega)); obtain ⟨ua244_0, uc244_0, rfl, ul244_0, ge244_0⟩ := Kd.FK_slice_open hMe244; have hv244_0 := hcc244 0 _ rfl; rw [Nat.add_zero, show ((Kd.slice 46 k46)).sz = 1 from rfl, Nat.mul_one] at hv244_0; replace hv244_0 := Option.some.inj (hv244_0.symm.trans hx244_0); injection hv244_0 with hva_ hvn_ hvc_; rw [hva_] at ge244_0; rw [hvc_] at ul244_0; have HL244_0 := Aside0.mk (show Kd.V k46 46 _ w.heap.size _ _ (rd_L3 t232 0) from Kd.V_mk ul244_0 ge244_0); clear hva_ hvn_ hvc_ ge244_0 ul244_0; clear hcc244 hce244; have qi244 : (0 < t232.length) = True := eq_true (by omega); (try rw [show ((0 : Int)).toNat = 0 from rfl] at hx244_0); (try rw [Addr.add_zero'] at hx244_0); have HR244_0 := Aside0.mk hi244_0; have HC244_0 := Aside0.mk hl244_0; clear hi244_0 hl244_0; replace p244 := eq_true p244; replace q244 := eq_true q244; have p245 : 0 ≤ (0 : Int) := (by omega); have q245 : 0 < (t232.length : Int) := of_decide_eq_true (by first | (with_reducible assumption) | assumption); obtain ⟨ad245, A245_0, c245_0, e245, hx245_0, hl245_0, hi245_0⟩ := at_L3 (Kd.N_reads' HO234.out).2.2 0 p245 q245; obtain rfl : ad244 = ad245 := (by injection e245); obtain ⟨ce245, hce245, hMe245, hcc245⟩ := Kd.N_get HO234.out [] 0 p245 (by first | exact q245 | exact of_decide_eq_true (by first | (with_reducible assumption) | assumption) | (have e_ := (Kd.N_reads' HO234.out).1; omega)); obtain ⟨ua245_0, uc245_0, rfl, ul245_0, ge245_0⟩ := Kd.FK_slice_open hMe245; have hv245_0 := hcc245 0 _ rfl; rw [Nat.add_zero, show ((Kd.slice 46 k46)).sz = 1 from rfl, Nat.mul_one] at hv245_0; replace hv245_0 := Option.some.inj (hv245_0.symm.trans hx245_0); injection hv245_0 with hva_ hvn_ hvc_; rw [hva_] at ge245_0; rw [hvc_] at ul245_0; have HL245_0 := Aside0.mk (show Kd.V k46 46 _ w.heap.size _ _ (rd_L3 t232 0) from Kd.V_mk ul245_0 ge245_0); clear hva_ hvn_ hvc_ ge245_0 ul245_0; clear hcc245 hce245; have qi245 : (0 < t232.length) = True := eq_true (by omega); (try rw [show ((0 : Int)).toNat = 0 from rfl] at hx245_0); (try rw [Addr.add_zero'] at hx245_0); have HR245_0 := Aside0.mk hi245_0; have HC245_0 := Aside0.mk hl245_0; clear hi245_0 hl245_0; replace p245 := eq_true p245; replace q245 := eq_true q245; have ea_ := Option.some.inj (hx244_0.symm.trans hx245_0); injection ea_ with ea_ en_ ec_; subst ea_; subst ec_; clear en_; have p246 : 0 ≤ (1 : Int) := (by omega); have q246 : 1 < ((rd_L3 t232 0).length : Int) := of_decide_eq_true (by first | (with_reducible assumption) | assumption); obtain ⟨ad246, e246, hx246_0, hx246_1, hx246_2⟩ := at_T46 (by repeat (first | (with_reducible exact HR245_0.out) | (with_reducible refine Kd.C_alloc ?_ _) | (with_reducible refine Kd.C_drewN ?_ _) | (with_reducible refine Kd.C_drew ?_) | exact HR245_0.out)) 1 p246 q246; cases e246; (try simp only [show (1 : Int).toNat = 1 from rfl, Nat.reduceMul, Nat.reduceEqDiff, Go.Addr.add, ↓reduceIte] at hx246_0); (try simp only [show (1 : Int).toNat = 1 from rfl, Nat.reduceMul, Nat.reduceEqDiff, Go.Addr.add, ↓reduceIte] at hx246_1); (try simp only [show (1 : Int).toNat = 1 from rfl, Nat.reduceMul, Nat.reduceEqDiff, Go.Addr.add, ↓reduceIte] at hx246_2); have qi246 : (1 < (rd_L3 t232 0).length) = True := eq_true (by omega); (try rw [show ((1 : Int)).toNat = 1 from rfl] at hx246_0); (try rw [show 1 * 3 = 3 from rfl] at hx246_0); (try rw [show ((1 : Int)).toNat = 1 from rfl] at hx246_1); (try rw [show 1 * 3 = 3 from rfl] at hx246_1); (try rw [show ((1 : Int)).toNat = 1 from rfl] at hx246_2); (try rw [show 1 * 3 = 3 from rfl] at hx246_2); replace p246 := eq_true p246; replace q246 := eq_true q246; have p247 : 0 ≤ (0 : Int) := (by omega); have q247 : 0 < (t238.length : Int) := of_decide_eq_true (by first | (with_reducible assumption) | assumption); obtain ⟨ad247, e247, hx247_0, hx247_1, hx247_2, hx247_3⟩ := at_T48 (Kd.R_reads' HO240.out).2.2 0 p247 q247; (try rw [← Nbq11.out] at hx247_0); cases e247; have qi247 : (0 < t238.length) = True := eq_true (by omega); (try rw [show ((0 : Int)).toNat = 0 from rfl] at hx247_0); (try rw [show 0 * 4 = 0 from rfl] at hx247_0); (try rw [Addr.add_zero'] at hx247_0); (try rw [show ((0 : Int)).toNat = 0 from rfl] at hx247_1); (try rw [show 0 * 4 = 0 from rfl] at hx247_1); (try rw [Addr.add_zero'] at hx247_1); (try rw [show ((0 : Int)).toNat = 0 from rfl] at hx247_2); (try rw [show 0 * 4 = 0 from rfl] at hx247_2); (try rw [Addr.add_zero'] at hx247_2); (try rw [show ((0 : Int)).toNat = 0 from rfl] at hx247_3); (try rw [show 0 * 4 = 0 from rfl] at hx247_3); (try rw [Addr.add_zero'] at hx247_3); replace p247 := eq_true p247; replace q247 := eq_true q247; have p248 : 0 ≤ (0 : Int) := (by omega); have q248 : 0 < (t238.length : Int) := of_decide_eq_true (by first | (with_reducible assumption) | assumption); obtain ⟨ad248, e248, hx248_0, hx248_1, hx248_2, hx248_3⟩ := at_T48 (Kd.R_reads' HO240.out).2.2 0 p248 q248; (try rw [← Nbq11.out] at hx248_0); obtain rfl : ad247 = ad248 := (by injection e248); have qi248 : (0 < t238.length) = True := eq_true (by omega); (try rw [show ((0 : Int)).toNat = 0 from rfl] at hx248_0); (try rw [show 0 * 4 = 0 from rfl] at hx248_0); (try rw [Addr.add_zero'] at hx248_0); (try rw [show ((0 : Int)).toNat = 0 from rfl] at hx248_1); (try rw [show 0 * 4 = 0 from rfl] at hx248_1); (try rw [Addr.add_zero'] at hx248_1); (try rw [show ((0 : Int)).toNat = 0 from rfl] at hx248_2); (try rw [show 0 * 4 = 0 from rfl] at hx248_2); (try rw [Addr.add_zero'] at hx248_2); (try rw [show ((0 : Int)).toNat = 0 from rfl] at hx248_3); (try rw [show 0 * 4 = 0 from rfl] at hx248_3); (try rw [Addr.add_zero'] at hx248_3); replace p248 := eq_true p248; replace q248 := eq_true q248))
           go_ret
           exact ⟨by first | rfl | (simp [errW_none, errW_some] <;> rfl) | (simp [*, errW_none, errW_some] <;> rfl) | (simp [errW_none, errW_some, Go.Proofs.YtmocooihkobdjaaDoor.listNe]; done), by repeat (first | (with_reducible first | exact HB.out | apply below_alloc | apply pw_below_drewN | apply below_drew1 | refine below_set ?_ GE243.out) | exact HB.out)⟩
          ·replace c12 := Bool.eq_false_iff.mpr c12
           subst c12
           have H1 : (some false) = some r := by rw [if_neg (show ¬ (false = true) by decide)] at H; exact H
           clear H
           have H := H1
           clear H1
           obtain rfl := Option.some.inj H
           go_enter Tryd.func21, Tryd.ntmps21
           go_wp2_with (first | ((with_reducible refine gate_callee (f := 19) rfl ?_); refine goesL_ (some 5) rfl rfl Tryd.func19 (by kernel_rfl) rfl #[.string (⟨#[105, 110, 115, 116, 97, 108, 108, 32, 97, 97, 32, 124, 32, 98, 98, 10, 35, 32, 120, 10, 97, 118, 111, 105, 100, 32, 99, 99, 10]⟩ : ByteArray)] rfl (by (try simp only [List.map_toArray, List.map_cons, List.map_nil]); first | done | rfl | (simp only [List.length_drop, List.length_take]; rfl) | (simp; done)) ?_; (with_reducible refine (request_Read.calls k (⟨#[105, 110, 115, 116, 97, 108, 108, 32, 97, 97, 32, 124, 32, 98, 98, 10, 35, 32, 120, 10, 97, 118, 111, 105, 100, 32, 99, 99, 10]⟩ : ByteArray) t232 t235 t238 t241 t242 _ ?side1 A1.out).mono ?_); (case side1 => exact GG.below HG.out (W0 HB.out)); rintro e w21 ⟨v233, v236, v239, rfl, ho0, ho1, ho2, hb⟩; refine ⟨_, rfl, ?_⟩; have n0_ := Aside0.mk (Kd.N_lower (Kd.N_mono (ok' := fun k_ => some k_ ≠ (v236 : Value).ownBlock ∧ some k_ ≠ (v239 : Value).ownBlock) ho0 (fun k_ hk_ => ⟨hk_.2.1, hk_.2.2⟩)) (below_size (W0 HB.out))); have n1_ := Aside0.mk (Kd.R_lower (Kd.R_mono (ok' := fun k_ => True) ho1 (fun _ hk_ => trivial)) (below_size (W0 HB.out))); have n2_ := Aside0.mk (Kd.R_lower (Kd.R_mono (ok' := fun k_ => True) ho2 (fun _ hk_ => trivial)) (below_size (W0 HB.out))); have n3_ := Aside0.mk (below_step (W0 HB.out) hb); clear HB; have HO234 := n0_; have HO237 := n1_; have HO240 := n2_; have HB := n3_; clear n0_ n1_ n2_ n3_; (try clear hb); (try clear hb2); (try clear hk); (try clear hi); (try clear ho0); (try clear ho1); (try clear ho2)) | ((with_reducible refine gate_dst (N := 1) rfl ?_); (try (refine gate_guard (by rfl) ?_; dsimp only)); refine box_event ?hg (N := 1) ?hd (cs := #[.slice none 0 0, .slice none 0 0, .slice none 0 0]) (t := 26) ?hr ?_; (case hd => rfl); (case hg => rfl); (case hr => first | (go_simp; done) | (go_simp; rfl)); intro gb243 hg w22 hbox hb; have n0_ := Aside0.mk (Kd.N_below (Kd.N_elderB (Nq HO234.out) gb243 (Nat.le_of_eq hg.symm)) hb); have n1_ := Aside0.mk (Kd.R_below (Rq HO237.out) hb); have n2_ := Aside0.mk (Kd.R_below (Rq HO240.out) hb); have n3_ := Aside0.mk (below_step (W0 HB.out) hb); have n4_ := Aside0.mk (hbox); have n5_ := Aside0.mk ((by rw [hg]; exact (below_size (W0 HB.out)) : w.heap.size ≤ gb243)); have n6_ := Aside0.mk ((by rw [hg]; exact (below_size (W0 HB.out)) : w.heap.size ≤ gb243)); clear HO234; clear HO237; clear HO240; clear HB; have HO234 := n0_; have HO237 := n1_; have HO240 := n2_; have HB := n3_; have BK243 := n4_; have GW243 := n5_; have GE243 := n6_; clear n0_ n1_ n2_ n3_ n4_ n5_ n6_; clear hb hbox hg; obtain ⟨Ao23, co23, eo23⟩ := Kd.N_slice HO234.out; subst eo23; have hcz24_0 : w22.cell? ⟨gb243, 0, none⟩ = some (.slice none 0 0) := (blk_cell BK243.out 0).trans rfl; have hcz24_1 : w22.cell? ⟨gb243, 1, none⟩ = some (.slice none 0 0) := (blk_cell BK243.out 1).trans rfl; have hcz24_2 : w22.cell? ⟨gb243, 2, none⟩ = some (.slice none 0 0) := (blk_cell BK243.out 2).trans rfl; have hfz24_0 := blk_frozen BK243.out 0; have hfz24_1 := blk_frozen BK243.out 1; have hfz24_2 := blk_frozen BK243.out 2; obtain ⟨Ao25, co25, eo25⟩ := Kd.R_slice HO237.out; subst eo25; obtain ⟨Ao26, co26, eo26⟩ := Kd.R_slice HO240.out; subst eo26) | ((with_reducible refine gate_store (t := 26) (p := 1) rfl ?_); refine store_event (t := 26) (p := 1) (v := ?vo_w27) (w1 := (((w22.setCell ⟨gb243, 0, none⟩ (.slice Ao23 t232.length co23)).setCell ⟨gb243, 1, none⟩ (.slice Ao25 t235.length co25)).setCell ⟨gb243, 2, none⟩ (.slice Ao26 t238.length co26))) ?hg ?ho ?hn ?hr ?_; (case ho => rfl); (case hg => rfl); (case hn => rfl); (case hr => first | (go_simp; done) | (go_simp; rfl)); intro w27 hw; have n0_ : Aside0 (Kd.N (Kd.slice 46 k46) 23 w27 w.heap.size (fun k_ => some k_ ≠ (.slice Ao25 t235.length co25 : Value).ownBlock ∧ some k_ ≠ (.slice Ao26 t238.length co26 : Value).ownBlock ∧ k_ ≠ gb243) (.slice Ao23 t232.length co23) t232) := ⟨(by rw [hw]; exact (by (with_reducible repeat (first | apply Kd.N_alloc | apply Kd.N_drewN | apply Kd.N_drew)); exact Kd.N_mono (Kd.N_far (p := ⟨gb243, 2, none⟩) (Kd.N_far (p := ⟨gb243, 1, none⟩) (Kd.N_far (p := ⟨gb243, 0, none⟩) (Kd.N_mono HO234.out (fun k_ hk => (⟨hk, hk.2⟩ : _ ∧ k_ ≠ gb243))) (fun _ hk => hk.2) (.slice Ao23 t232.length co23)) (fun _ hk => hk.2) (.slice Ao25 t235.length co25)) (fun _ hk => hk.2) (.slice Ao26 t238.length co26)) (fun _ hk => ⟨hk.1.1.1, ⟨hk.1.1.2, hk.1.2⟩⟩)))⟩; have n1_ : Aside0 (Kd.R k46 46 w27 w.heap.size (fun _ => True) (.slice Ao25 t235.length co25) t235) := ⟨(by rw [hw]; exact (by (with_reducible repeat (first | apply Kd.R_alloc | apply Kd.R_drewN | apply Kd.R_drew)); exact Kd.R_mono (Kd.R_far (p := ⟨gb243, 2, none⟩) (Kd.R_far (p := ⟨gb243, 1, none⟩) (Kd.R_far (p := ⟨gb243, 0, none⟩) (Rt HO237.out BK243.out) (fun _ hk => hk.2) (.slice Ao23 t232.length co23)) (fun _ hk => hk.2) (.slice Ao25 t235.length co25)) (fun _ hk => hk.2) (.slice Ao26 t238.length co26)) (fun _ hk => trivial)))⟩; have n2_ : Aside0 (Kd.R k48 48 w27 w.heap.size (fun _ => True) (.slice Ao26 t238.length co26) t238) := ⟨(by rw [hw]; exact (by (with_reducible repeat (first | apply Kd.R_alloc | apply Kd.R_drewN | apply Kd.R_drew)); exact Kd.R_mono (Kd.R_far (p := ⟨gb243, 2, none⟩) (Kd.R_far (p := ⟨gb243, 1, none⟩) (Kd.R_far (p := ⟨gb243, 0, none⟩) (Rt HO240.out BK243.out) (fun _ hk => hk.2) (.slice Ao23 t232.length co23)) (fun _ hk => hk.2) (.slice Ao25 t235.length co25)) (fun _ hk => hk.2) (.slice Ao26 t238.length co26)) (fun _ hk => trivial)))⟩; have n3_ : Aside0 (w27.heap[gb243]? = some (.cells #[.slice Ao23 t232.length co23, .slice Ao25 t235.length co25, .slice Ao26 t238.length co26] 26 (0, 0))) := ⟨(by rw [hw]; exact (by (with_reducible repeat (first | refine blk_drewN ?_ _ | refine blk_drew ?_ | refine blk_alloc ?_ _)); refine blk_put (cs := #[.slice Ao23 t232.length co23, .slice Ao25 t235.length co25, .slice none 0 0]) ?_ 2 _ rfl; (with_reducible repeat (first | refine blk_drewN ?_ _ | refine blk_drew ?_ | refine blk_alloc ?_ _)); refine blk_put (cs := #[.slice Ao23 t232.length co23, .slice none 0 0, .slice none 0 0]) ?_ 1 _ rfl; (with_reducible repeat (first | refine blk_drewN ?_ _ | refine blk_drew ?_ | refine blk_alloc ?_ _)); refine blk_put (cs := #[.slice none 0 0, .slice none 0 0, .slice none 0 0]) ?_ 0 _ rfl; (with_reducible repeat (first | refine blk_drewN ?_ _ | refine blk_drew ?_ | refine blk_alloc ?_ _)); exact BK243.out))⟩; have n4_ : Aside0 (Below w.heap.size w w27) := ⟨(by rw [hw]; exact (W1 HB.out GE243.out))⟩; clear hw; clear HO234; clear HO237; clear HO240; clear BK243; clear HB; have HO234 := n0_; have HO237 := n1_; have HO240 := n2_; have BK243 := n3_; have HB := n4_; clear n0_ n1_ n2_ n3_ n4_; have hcz28_0 : w27.cell? ⟨gb243, 0, none⟩ = some (.slice Ao23 t232.length co23) := (blk_cell BK243.out 0).trans rfl; have hcz28_1 : w27.cell? ⟨gb243, 1, none⟩ = some (.slice Ao25 t235.length co25) := (blk_cell BK243.out 1).trans rfl; have hcz28_2 : w27.cell? ⟨gb243, 2, none⟩ = some (.slice Ao26 t238.length co26) := (blk_cell BK243.out 2).trans rfl; have hfz28_0 := blk_frozen BK243.out 0; have hfz28_1 := blk_frozen BK243.out 1; have hfz28_2 := blk_frozen BK243.out 2; have p244 : 0 ≤ (0 : Int) := (by omega); have q244 : 0 < (t232.length : Int) := of_decide_eq_true (by first | (with_reducible assumption) | assumption); obtain ⟨ad244, A244_0, c244_0, e244, hx244_0, hl244_0, hi244_0⟩ := at_L3 (Kd.N_reads' HO234.out).2.2 0 p244 q244; cases e244; obtain ⟨ce244, hce244, hMe244, hcc244⟩ := Kd.N_get HO234.out [] 0 p244 (by first | exact q244 | exact of_decide_eq_true (by first | (with_reducible assumption) | assumption) | (have e_ := (Kd.N_reads' HO234.out).1; omega)); obtain ⟨ua244_0, uc244_0, rfl, ul244_0, ge244_0⟩ := Kd.FK_slice_open hMe244; have hv244_0 := hcc244 0 _ rfl; rw [Nat.add_zero, show ((Kd.slice 46 k46)).sz = 1 from rfl, Nat.mul_one] at hv244_0; replace hv244_0 := Option.some.inj (hv244_0.symm.trans hx244_0); injection hv244_0 with hva_ hvn_ hvc_; rw [hva_] at ge244_0; rw [hvc_] at ul244_0; have HL244_0 := Aside0.mk (show Kd.V k46 46 _ w.heap.size _ _ (rd_L3 t232 0) from Kd.V_mk ul244_0 ge244_0); clear hva_ hvn_ hvc_ ge244_0 ul244_0; clear hcc244 hce244; have qi244 : (0 < t232.length) = True := eq_true (by omega); (try rw [show ((0 : Int)).toNat = 0 from rfl] at hx244_0); (try rw [Addr.add_zero'] at hx244_0); have HR244_0 := Aside0.mk hi244_0; have HC244_0 := Aside0.mk hl244_0; clear hi244_0 hl244_0; replace p244 := eq_true p244; replace q244 := eq_true q244; have p245 : 0 ≤ (0 : Int) := (by omega); have q245 : 0 < (t232.length : Int) := of_decide_eq_true (by first | (with_reducible assumption) | assumption); obtain ⟨ad245, A245_0, c245_0, e245, hx245_0, hl245_0, hi245_0⟩ := at_L3 (Kd.N_reads' HO234.out).2.2 0 p245 q245; obtain rfl : ad244 = ad245 := (by injection e245); obtain ⟨ce245, hce245, hMe245, hcc245⟩ := Kd.N_get HO234.out [] 0 p245 (by first | exact q245 | exact of_decide_eq_true (by first | (with_reducible assumption) | assumption) | (have e_ := (Kd.N_reads' HO234.out).1; omega)); obtain ⟨ua245_0, uc245_0, rfl, ul245_0, ge245_0⟩ := Kd.FK_slice_open hMe245; have hv245_0 := hcc245 0 _ rfl; rw [Nat.add_zero, show ((Kd.slice 46 k46)).sz = 1 from rfl, Nat.mul_one] at hv245_0; replace hv245_0 := Option.some.inj (hv245_0.symm.trans hx245_0); injection hv245_0 with hva_ hvn_ hvc_; rw [hva_] at ge245_0; rw [hvc_] at ul245_0; have HL245_0 := Aside0.mk (show Kd.V k46 46 _ w.heap.size _ _ (rd_L3 t232 0) from Kd.V_mk ul245_0 ge245_0); clear hva_ hvn_ hvc_ ge245_0 ul245_0; clear hcc245 hce245; have qi245 : (0 < t232.length) = True := eq_true (by omega); (try rw [show ((0 : Int)).toNat = 0 from rfl] at hx245_0); (try rw [Addr.add_zero'] at hx245_0); have HR245_0 := Aside0.mk hi245_0; have HC245_0 := Aside0.mk hl245_0; clear hi245_0 hl245_0; replace p245 := eq_true p245; replace q245 := eq_true q245; have ea_ := Option.some.inj (hx244_0.symm.trans hx245_0); injection ea_ with ea_ en_ ec_; subst ea_; subst ec_; clear en_; have p246 : 0 ≤ (1 : Int) := (by omega); have q246 : 1 < ((rd_L3 t232 0).length : Int) := of_decide_eq_true (by first | (with_reducible assumption) | assumption); obtain ⟨ad246, e246, hx246_0, hx246_1, hx246_2⟩ := at_T46 (by repeat (first | (with_reducible exact HR245_0.out) | (with_reducible refine Kd.C_alloc ?_ _) | (with_reducible refine Kd.C_drewN ?_ _) | (with_reducible refine Kd.C_drew ?_) | exact HR245_0.out)) 1 p246 q246; cases e246; (try simp only [show (1 : Int).toNat = 1 from rfl, Nat.reduceMul, Nat.reduceEqDiff, Go.Addr.add, ↓reduceIte] at hx246_0); (try simp only [show (1 : Int).toNat = 1 from rfl, Nat.reduceMul, Nat.reduceEqDiff, Go.Addr.add, ↓reduceIte] at hx246_1); (try simp only [show (1 : Int).toNat = 1 from rfl, Nat.reduceMul, Nat.reduceEqDiff, Go.Addr.add, ↓reduceIte] at hx246_2); have qi246 : (1 < (rd_L3 t232 0).length) = True := eq_true (by omega); (try rw [show ((1 : Int)).toNat = 1 from rfl] at hx246_0); (try rw [show 1 * 3 = 3 from rfl] at hx246_0); (try rw [show ((1 : Int)).toNat = 1 from rfl] at hx246_1); (try rw [show 1 * 3 = 3 from rfl] at hx246_1); (try rw [show ((1 : Int)).toNat = 1 from rfl] at hx246_2); (try rw [show 1 * 3 = 3 from rfl] at hx246_2); replace p246 := eq_true p246; replace q246 := eq_true q246; have p247 : 0 ≤ (0 : Int) := (by omega); have q247 : 0 < (t238.length : Int) := of_decide_eq_true (by first | (with_reducible assumption) | assumption); obtain ⟨ad247, e247, hx247_0, hx247_1, hx247_2, hx247_3⟩ := at_T48 (Kd.R_reads' HO240.out).2.2 0 p247 q247; (try rw [← Nbq11.out] at hx247_0); cases e247; have qi247 : (0 < t238.length) = True := eq_true (by omega); (try rw [show ((0 : Int)).toNat = 0 from rfl] at hx247_0); (try rw [show 0 * 4 = 0 from rfl] at hx247_0); (try rw [Addr.add_zero'] at hx247_0); (try rw [show ((0 : Int)).toNat = 0 from rfl] at hx247_1); (try rw [show 0 * 4 = 0 from rfl] at hx247_1); (try rw [Addr.add_zero'] at hx247_1); (try rw [show ((0 : Int)).toNat = 0 from rfl] at hx247_2); (try rw [show 0 * 4 = 0 from rfl] at hx247_2); (try rw [Addr.add_zero'] at hx247_2); (try rw [show ((0 : Int)).toNat = 0 from rfl] at hx247_3); (try rw [show 0 * 4 = 0 from rfl] at hx247_3); (try rw [Addr.add_zero'] at hx247_3); replace p247 := eq_true p247; replace q247 := eq_true q247))
           go_ret
           exact ⟨by first | rfl | (simp [errW_none, errW_some] <;> rfl) | (simp [*, errW_none, errW_some] <;> rfl) | (simp [errW_none, errW_some, Go.Proofs.YtmocooihkobdjaaDoor.listNe]; done), by repeat (first | (with_reducible first | exact HB.out | apply below_alloc | apply pw_below_drewN | apply below_drew1 | refine below_set ?_ GE243.out) | exact HB.out)⟩
         ·rw [if_neg c10] at H
          exact absurd H (by simp)
        ·rw [if_neg c9] at H
         have c9b0 : ((t238.length : Int) == 1) = false := beq_eq_false_iff_ne.mpr c9
         have c9b1 : ((t238.length : Int) != 1) = true := bne_iff_ne.mpr c9
         obtain rfl := Option.some.inj H
         go_enter Tryd.func21, Tryd.ntmps21
         go_wp2_with (first | ((with_reducible refine gate_callee (f := 19) rfl ?_); refine goesL_ (some 5) rfl rfl Tryd.func19 (by kernel_rfl) rfl #[.string (⟨#[105, 110, 115, 116, 97, 108, 108, 32, 97, 97, 32, 124, 32, 98, 98, 10, 35, 32, 120, 10, 97, 118, 111, 105, 100, 32, 99, 99, 10]⟩ : ByteArray)] rfl (by (try simp only [List.map_toArray, List.map_cons, List.map_nil]); first | done | rfl | (simp only [List.length_drop, List.length_take]; rfl) | (simp; done)) ?_; (with_reducible refine (request_Read.calls k (⟨#[105, 110, 115, 116, 97, 108, 108, 32, 97, 97, 32, 124, 32, 98, 98, 10, 35, 32, 120, 10, 97, 118, 111, 105, 100, 32, 99, 99, 10]⟩ : ByteArray) t232 t235 t238 t241 t242 _ ?side1 A1.out).mono ?_); (case side1 => exact GG.below HG.out (W0 HB.out)); rintro e w29 ⟨v233, v236, v239, rfl, ho0, ho1, ho2, hb⟩; refine ⟨_, rfl, ?_⟩; have n0_ := Aside0.mk (Kd.N_lower (Kd.N_mono (ok' := fun k_ => some k_ ≠ (v236 : Value).ownBlock ∧ some k_ ≠ (v239 : Value).ownBlock) ho0 (fun k_ hk_ => ⟨hk_.2.1, hk_.2.2⟩)) (below_size (W0 HB.out))); have n1_ := Aside0.mk (Kd.R_lower (Kd.R_mono (ok' := fun k_ => True) ho1 (fun _ hk_ => trivial)) (below_size (W0 HB.out))); have n2_ := Aside0.mk (Kd.R_lower (Kd.R_mono (ok' := fun k_ => True) ho2 (fun _ hk_ => trivial)) (below_size (W0 HB.out))); have n3_ := Aside0.mk (below_step (W0 HB.out) hb); clear HB; have HO234 := n0_; have HO237 := n1_; have HO240 := n2_; have HB := n3_; clear n0_ n1_ n2_ n3_; (try clear hb); (try clear hb2); (try clear hk); (try clear hi); (try clear ho0); (try clear ho1); (try clear ho2)) | ((with_reducible refine gate_dst (N := 1) rfl ?_); (try (refine gate_guard (by rfl) ?_; dsimp only)); refine box_event ?hg (N := 1) ?hd (cs := #[.slice none 0 0, .slice none 0 0, .slice none 0 0]) (t := 26) ?hr ?_; (case hd => rfl); (case hg => rfl); (case hr => first | (go_simp; done) | (go_simp; rfl)); intro gb243 hg w30 hbox hb; have n0_ := Aside0.mk (Kd.N_below (Kd.N_elderB (Nq HO234.out) gb243 (Nat.le_of_eq hg.symm)) hb); have n1_ := Aside0.mk (Kd.R_below (Rq HO237.out) hb); have n2_ := Aside0.mk (Kd.R_below (Rq HO240.out) hb); have n3_ := Aside0.mk (below_step (W0 HB.out) hb); have n4_ := Aside0.mk (hbox); have n5_ := Aside0.mk ((by rw [hg]; exact (below_size (W0 HB.out)) : w.heap.size ≤ gb243)); have n6_ := Aside0.mk ((by rw [hg]; exact (below_size (W0 HB.out)) : w.heap.size ≤ gb243)); clear HO234; clear HO237; clear HO240; clear HB; have HO234 := n0_; have HO237 := n1_; have HO240 := n2_; have HB := n3_; have BK243 := n4_; have GW243 := n5_; have GE243 := n6_; clear n0_ n1_ n2_ n3_ n4_ n5_ n6_; clear hb hbox hg; obtain ⟨Ao31, co31, eo31⟩ := Kd.N_slice HO234.out; subst eo31; have hcz32_0 : w30.cell? ⟨gb243, 0, none⟩ = some (.slice none 0 0) := (blk_cell BK243.out 0).trans rfl; have hcz32_1 : w30.cell? ⟨gb243, 1, none⟩ = some (.slice none 0 0) := (blk_cell BK243.out 1).trans rfl; have hcz32_2 : w30.cell? ⟨gb243, 2, none⟩ = some (.slice none 0 0) := (blk_cell BK243.out 2).trans rfl; have hfz32_0 := blk_frozen BK243.out 0; have hfz32_1 := blk_frozen BK243.out 1; have hfz32_2 := blk_frozen BK243.out 2; obtain ⟨Ao33, co33, eo33⟩ := Kd.R_slice HO237.out; subst eo33; obtain ⟨Ao34, co34, eo34⟩ := Kd.R_slice HO240.out; subst eo34) | ((with_reducible refine gate_store (t := 26) (p := 1) rfl ?_); refine store_event (t := 26) (p := 1) (v := ?vo_w35) (w1 := (((w30.setCell ⟨gb243, 0, none⟩ (.slice Ao31 t232.length co31)).setCell ⟨gb243, 1, none⟩ (.slice Ao33 t235.length co33)).setCell ⟨gb243, 2, none⟩ (.slice Ao34 t238.length co34))) ?hg ?ho ?hn ?hr ?_; (case ho => rfl); (case hg => rfl); (case hn => rfl); (case hr => first | (go_simp; done) | (go_simp; rfl)); intro w35 hw; have n0_ : Aside0 (Kd.N (Kd.slice 46 k46) 23 w35 w.heap.size (fun k_ => some k_ ≠ (.slice Ao33 t235.length co33 : Value).ownBlock ∧ some k_ ≠ (.slice Ao34 t238.length co34 : Value).ownBlock ∧ k_ ≠ gb243) (.slice Ao31 t232.length co31) t232) := ⟨(by rw [hw]; exact (by (with_reducible repeat (first | apply Kd.N_alloc | apply Kd.N_drewN | apply Kd.N_drew)); exact Kd.N_mono (Kd.N_far (p := ⟨gb243, 2, none⟩) (Kd.N_far (p := ⟨gb243, 1, none⟩) (Kd.N_far (p := ⟨gb243, 0, none⟩) (Kd.N_mono HO234.out (fun k_ hk => (⟨hk, hk.2⟩ : _ ∧ k_ ≠ gb243))) (fun _ hk => hk.2) (.slice Ao31 t232.length co31)) (fun _ hk => hk.2) (.slice Ao33 t235.length co33)) (fun _ hk => hk.2) (.slice Ao34 t238.length co34)) (fun _ hk => ⟨hk.1.1.1, ⟨hk.1.1.2, hk.1.2⟩⟩)))⟩; have n1_ : Aside0 (Kd.R k46 46 w35 w.heap.size (fun _ => True) (.slice Ao33 t235.length co33) t235) := ⟨(by rw [hw]; exact (by (with_reducible repeat (first | apply Kd.R_alloc | apply Kd.R_drewN | apply Kd.R_drew)); exact Kd.R_mono (Kd.R_far (p := ⟨gb243, 2, none⟩) (Kd.R_far (p := ⟨gb243, 1, none⟩) (Kd.R_far (p := ⟨gb243, 0, none⟩) (Rt HO237.out BK243.out) (fun _ hk => hk.2) (.slice Ao31 t232.length co31)) (fun _ hk => hk.2) (.slice Ao33 t235.length co33)) (fun _ hk => hk.2) (.slice Ao34 t238.length co34)) (fun _ hk => trivial)))⟩; have n2_ : Aside0 (Kd.R k48 48 w35 w.heap.size (fun _ => True) (.slice Ao34 t238.length co34) t238) := ⟨(by rw [hw]; exact (by (with_reducible repeat (first | apply Kd.R_alloc | apply Kd.R_drewN | apply Kd.R_drew)); exact Kd.R_mono (Kd.R_far (p := ⟨gb243, 2, none⟩) (Kd.R_far (p := ⟨gb243, 1, none⟩) (Kd.R_far (p := ⟨gb243, 0, none⟩) (Rt HO240.out BK243.out) (fun _ hk => hk.2) (.slice Ao31 t232.length co31)) (fun _ hk => hk.2) (.slice Ao33 t235.length co33)) (fun _ hk => hk.2) (.slice Ao34 t238.length co34)) (fun _ hk => trivial)))⟩; have n3_ : Aside0 (w35.heap[gb243]? = some (.cells #[.slice Ao31 t232.length co31, .slice Ao33 t235.length co33, .slice Ao34 t238.length co34] 26 (0, 0))) := ⟨(by rw [hw]; exact (by (with_reducible repeat (first | refine blk_drewN ?_ _ | refine blk_drew ?_ | refine blk_alloc ?_ _)); refine blk_put (cs := #[.slice Ao31 t232.length co31, .slice Ao33 t235.length co33, .slice none 0 0]) ?_ 2 _ rfl; (with_reducible repeat (first | refine blk_drewN ?_ _ | refine blk_drew ?_ | refine blk_alloc ?_ _)); refine blk_put (cs := #[.slice Ao31 t232.length co31, .slice none 0 0, .slice none 0 0]) ?_ 1 _ rfl; (with_reducible repeat (first | refine blk_drewN ?_ _ | refine blk_drew ?_ | refine blk_alloc ?_ _)); refine blk_put (cs := #[.slice none 0 0, .slice none 0 0, .slice none 0 0]) ?_ 0 _ rfl; (with_reducible repeat (first | refine blk_drewN ?_ _ | refine blk_drew ?_ | refine blk_alloc ?_ _)); exact BK243.out))⟩; have n4_ : Aside0 (Below w.heap.size w w35) := ⟨(by rw [hw]; exact (W1 HB.out GE243.out))⟩; clear hw; clear HO234; clear HO237; clear HO240; clear BK243; clear HB; have HO234 := n0_; have HO237 := n1_; have HO240 := n2_; have BK243 := n3_; have HB := n4_; clear n0_ n1_ n2_ n3_ n4_; have hcz36_0 : w35.cell? ⟨gb243, 0, none⟩ = some (.slice Ao31 t232.length co31) := (blk_cell BK243.out 0).trans rfl; have hcz36_1 : w35.cell? ⟨gb243, 1, none⟩ = some (.slice Ao33 t235.length co33) := (blk_cell BK243.out 1).trans rfl; have hcz36_2 : w35.cell? ⟨gb243, 2, none⟩ = some (.slice Ao34 t238.length co34) := (blk_cell BK243.out 2).trans rfl; have hfz36_0 := blk_frozen BK243.out 0; have hfz36_1 := blk_frozen BK243.out 1; have hfz36_2 := blk_frozen BK243.out 2; have p244 : 0 ≤ (0 : Int) := (by omega); have q244 : 0 < (t232.length : Int) := of_decide_eq_true (by first | (with_reducible assumption) | assumption); obtain ⟨ad244, A244_0, c244_0, e244, hx244_0, hl244_0, hi244_0⟩ := at_L3 (Kd.N_reads' HO234.out).2.2 0 p244 q244; cases e244; obtain ⟨ce244, hce244, hMe244, hcc244⟩ := Kd.N_get HO234.out [] 0 p244 (by first | exact q244 | exact of_decide_eq_true (by first | (with_reducible assumption) | assumption) | (have e_ := (Kd.N_reads' HO234.out).1; omega)); obtain ⟨ua244_0, uc244_0, rfl, ul244_0, ge244_0⟩ := Kd.FK_slice_open hMe244; have hv244_0 := hcc244 0 _ rfl; rw [Nat.add_zero, show ((Kd.slice 46 k46)).sz = 1 from rfl, Nat.mul_one] at hv244_0; replace hv244_0 := Option.some.inj (hv244_0.symm.trans hx244_0); injection hv244_0 with hva_ hvn_ hvc_; rw [hva_] at ge244_0; rw [hvc_] at ul244_0; have HL244_0 := Aside0.mk (show Kd.V k46 46 _ w.heap.size _ _ (rd_L3 t232 0) from Kd.V_mk ul244_0 ge244_0); clear hva_ hvn_ hvc_ ge244_0 ul244_0; clear hcc244 hce244; have qi244 : (0 < t232.length) = True := eq_true (by omega); (try rw [show ((0 : Int)).toNat = 0 from rfl] at hx244_0); (try rw [Addr.add_zero'] at hx244_0); have HR244_0 := Aside0.mk hi244_0; have HC244_0 := Aside0.mk hl244_0; clear hi244_0 hl244_0; replace p244 := eq_true p244; replace q244 := eq_true q244; have p245 : 0 ≤ (0 : Int) := (by omega); have q245 : 0 < (t232.length : Int) := of_decide_eq_true (by first | (with_reducible assumption) | assumption); obtain ⟨ad245, A245_0, c245_0, e245, hx245_0, hl245_0, hi245_0⟩ := at_L3 (Kd.N_reads' HO234.out).2.2 0 p245 q245; obtain rfl : ad244 = ad245 := (by injection e245); obtain ⟨ce245, hce245, hMe245, hcc245⟩ := Kd.N_get HO234.out [] 0 p245 (by first | exact q245 | exact of_decide_eq_true (by first | (with_reducible assumption) | assumption) | (have e_ := (Kd.N_reads' HO234.out).1; omega)); obtain ⟨ua245_0, uc245_0, rfl, ul245_0, ge245_0⟩ := Kd.FK_slice_open hMe245; have hv245_0 := hcc245 0 _ rfl; rw [Nat.add_zero, show ((Kd.slice 46 k46)).sz = 1 from rfl, Nat.mul_one] at hv245_0; replace hv245_0 := Option.some.inj (hv245_0.symm.trans hx245_0); injection hv245_0 with hva_ hvn_ hvc_; rw [hva_] at ge245_0; rw [hvc_] at ul245_0; have HL245_0 := Aside0.mk (show Kd.V k46 46 _ w.heap.size _ _ (rd_L3 t232 0) from Kd.V_mk ul245_0 ge245_0); clear hva_ hvn_ hvc_ ge245_0 ul245_0; clear hcc245 hce245; have qi245 : (0 < t232.length) = True := eq_true (by omega); (try rw [show ((0 : Int)).toNat = 0 from rfl] at hx245_0); (try rw [Addr.add_zero'] at hx245_0); have HR245_0 := Aside0.mk hi245_0; have HC245_0 := Aside0.mk hl245_0; clear hi245_0 hl245_0; replace p245 := eq_true p245; replace q245 := eq_true q245; have ea_ := Option.some.inj (hx244_0.symm.trans hx245_0); injection ea_ with ea_ en_ ec_; subst ea_; subst ec_; clear en_; have p246 : 0 ≤ (1 : Int) := (by omega); have q246 : 1 < ((rd_L3 t232 0).length : Int) := of_decide_eq_true (by first | (with_reducible assumption) | assumption); obtain ⟨ad246, e246, hx246_0, hx246_1, hx246_2⟩ := at_T46 (by repeat (first | (with_reducible exact HR245_0.out) | (with_reducible refine Kd.C_alloc ?_ _) | (with_reducible refine Kd.C_drewN ?_ _) | (with_reducible refine Kd.C_drew ?_) | exact HR245_0.out)) 1 p246 q246; cases e246; (try simp only [show (1 : Int).toNat = 1 from rfl, Nat.reduceMul, Nat.reduceEqDiff, Go.Addr.add, ↓reduceIte] at hx246_0); (try simp only [show (1 : Int).toNat = 1 from rfl, Nat.reduceMul, Nat.reduceEqDiff, Go.Addr.add, ↓reduceIte] at hx246_1); (try simp only [show (1 : Int).toNat = 1 from rfl, Nat.reduceMul, Nat.reduceEqDiff, Go.Addr.add, ↓reduceIte] at hx246_2); have qi246 : (1 < (rd_L3 t232 0).length) = True := eq_true (by omega); (try rw [show ((1 : Int)).toNat = 1 from rfl] at hx246_0); (try rw [show 1 * 3 = 3 from rfl] at hx246_0); (try rw [show ((1 : Int)).toNat = 1 from rfl] at hx246_1); (try rw [show 1 * 3 = 3 from rfl] at hx246_1); (try rw [show ((1 : Int)).toNat = 1 from rfl] at hx246_2); (try rw [show 1 * 3 = 3 from rfl] at hx246_2); replace p246 := eq_true p246; replace q246 := eq_true q246))
         go_ret
         exact ⟨by first | rfl | (simp [errW_none, errW_some] <;> rfl) | (simp [*, errW_none, errW_some] <;> rfl) | (simp [errW_none, errW_some, Go.Proofs.YtmocooihkobdjaaDoor.listNe]; done), by repeat (first | (with_reducible first | exact HB.out | apply below_alloc | apply pw_below_drewN | apply below_drew1 | refine below_set ?_ GE243.out) | exact HB.out)⟩
       ·rw [if_neg c8] at H
        have c8b0 : (((rd_T46 (rd_L3 t232 0) 1).f0).toList == ([98, 98] : List UInt8)) = false := beq_eq_false_iff_ne.mpr c8
        have c8b1 : (((rd_T46 (rd_L3 t232 0) 1).f0).toList != ([98, 98] : List UInt8)) = true := bne_iff_ne.mpr c8
        obtain rfl := Option.some.inj H
        go_enter Tryd.func21, Tryd.ntmps21
        go_wp2_with (first | ((with_reducible refine gate_callee (f := 19) rfl ?_); refine goesL_ (some 5) rfl rfl Tryd.func19 (by kernel_rfl) rfl #[.string (⟨#[105, 110, 115, 116, 97, 108, 108, 32, 97, 97, 32, 124, 32, 98, 98, 10, 35, 32, 120, 10, 97, 118, 111, 105, 100, 32, 99, 99, 10]⟩ : ByteArray)] rfl (by (try simp only [List.map_toArray, List.map_cons, List.map_nil]); first | done | rfl | (simp only [List.length_drop, List.length_take]; rfl) | (simp; done)) ?_; (with_reducible refine (request_Read.calls k (⟨#[105, 110, 115, 116, 97, 108, 108, 32, 97, 97, 32, 124, 32, 98, 98, 10, 35, 32, 120, 10, 97, 118, 111, 105, 100, 32, 99, 99, 10]⟩ : ByteArray) t232 t235 t238 t241 t242 _ ?side1 A1.out).mono ?_); (case side1 => exact GG.below HG.out (W0 HB.out)); rintro e w37 ⟨v233, v236, v239, rfl, ho0, ho1, ho2, hb⟩; refine ⟨_, rfl, ?_⟩; have n0_ := Aside0.mk (Kd.N_lower (Kd.N_mono (ok' := fun k_ => some k_ ≠ (v236 : Value).ownBlock ∧ some k_ ≠ (v239 : Value).ownBlock) ho0 (fun k_ hk_ => ⟨hk_.2.1, hk_.2.2⟩)) (below_size (W0 HB.out))); have n1_ := Aside0.mk (Kd.R_lower (Kd.R_mono (ok' := fun k_ => True) ho1 (fun _ hk_ => trivial)) (below_size (W0 HB.out))); have n2_ := Aside0.mk (Kd.R_lower (Kd.R_mono (ok' := fun k_ => True) ho2 (fun _ hk_ => trivial)) (below_size (W0 HB.out))); have n3_ := Aside0.mk (below_step (W0 HB.out) hb); clear HB; have HO234 := n0_; have HO237 := n1_; have HO240 := n2_; have HB := n3_; clear n0_ n1_ n2_ n3_; (try clear hb); (try clear hb2); (try clear hk); (try clear hi); (try clear ho0); (try clear ho1); (try clear ho2)) | ((with_reducible refine gate_dst (N := 1) rfl ?_); (try (refine gate_guard (by rfl) ?_; dsimp only)); refine box_event ?hg (N := 1) ?hd (cs := #[.slice none 0 0, .slice none 0 0, .slice none 0 0]) (t := 26) ?hr ?_; (case hd => rfl); (case hg => rfl); (case hr => first | (go_simp; done) | (go_simp; rfl)); intro gb243 hg w38 hbox hb; have n0_ := Aside0.mk (Kd.N_below (Kd.N_elderB (Nq HO234.out) gb243 (Nat.le_of_eq hg.symm)) hb); have n1_ := Aside0.mk (Kd.R_below (Rq HO237.out) hb); have n2_ := Aside0.mk (Kd.R_below (Rq HO240.out) hb); have n3_ := Aside0.mk (below_step (W0 HB.out) hb); have n4_ := Aside0.mk (hbox); have n5_ := Aside0.mk ((by rw [hg]; exact (below_size (W0 HB.out)) : w.heap.size ≤ gb243)); have n6_ := Aside0.mk ((by rw [hg]; exact (below_size (W0 HB.out)) : w.heap.size ≤ gb243)); clear HO234; clear HO237; clear HO240; clear HB; have HO234 := n0_; have HO237 := n1_; have HO240 := n2_; have HB := n3_; have BK243 := n4_; have GW243 := n5_; have GE243 := n6_; clear n0_ n1_ n2_ n3_ n4_ n5_ n6_; clear hb hbox hg; obtain ⟨Ao39, co39, eo39⟩ := Kd.N_slice HO234.out; subst eo39; have hcz40_0 : w38.cell? ⟨gb243, 0, none⟩ = some (.slice none 0 0) := (blk_cell BK243.out 0).trans rfl; have hcz40_1 : w38.cell? ⟨gb243, 1, none⟩ = some (.slice none 0 0) := (blk_cell BK243.out 1).trans rfl; have hcz40_2 : w38.cell? ⟨gb243, 2, none⟩ = some (.slice none 0 0) := (blk_cell BK243.out 2).trans rfl; have hfz40_0 := blk_frozen BK243.out 0; have hfz40_1 := blk_frozen BK243.out 1; have hfz40_2 := blk_frozen BK243.out 2; obtain ⟨Ao41, co41, eo41⟩ := Kd.R_slice HO237.out; subst eo41; obtain ⟨Ao42, co42, eo42⟩ := Kd.R_slice HO240.out; subst eo42) | ((with_reducible refine gate_store (t := 26) (p := 1) rfl ?_); refine store_event (t := 26) (p := 1) (v := ?vo_w43) (w1 := (((w38.setCell ⟨gb243, 0, none⟩ (.slice Ao39 t232.length co39)).setCell ⟨gb243, 1, none⟩ (.slice Ao41 t235.length co41)).setCell ⟨gb243, 2, none⟩ (.slice Ao42 t238.length co42))) ?hg ?ho ?hn ?hr ?_; (case ho => rfl); (case hg => rfl); (case hn => rfl); (case hr => first | (go_simp; done) | (go_simp; rfl)); intro w43 hw; have n0_ : Aside0 (Kd.N (Kd.slice 46 k46) 23 w43 w.heap.size (fun k_ => some k_ ≠ (.slice Ao41 t235.length co41 : Value).ownBlock ∧ some k_ ≠ (.slice Ao42 t238.length co42 : Value).ownBlock ∧ k_ ≠ gb243) (.slice Ao39 t232.length co39) t232) := ⟨(by rw [hw]; exact (by (with_reducible repeat (first | apply Kd.N_alloc | apply Kd.N_drewN | apply Kd.N_drew)); exact Kd.N_mono (Kd.N_far (p := ⟨gb243, 2, none⟩) (Kd.N_far (p := ⟨gb243, 1, none⟩) (Kd.N_far (p := ⟨gb243, 0, none⟩) (Kd.N_mono HO234.out (fun k_ hk => (⟨hk, hk.2⟩ : _ ∧ k_ ≠ gb243))) (fun _ hk => hk.2) (.slice Ao39 t232.length co39)) (fun _ hk => hk.2) (.slice Ao41 t235.length co41)) (fun _ hk => hk.2) (.slice Ao42 t238.length co42)) (fun _ hk => ⟨hk.1.1.1, ⟨hk.1.1.2, hk.1.2⟩⟩)))⟩; have n1_ : Aside0 (Kd.R k46 46 w43 w.heap.size (fun _ => True) (.slice Ao41 t235.length co41) t235) := ⟨(by rw [hw]; exact (by (with_reducible repeat (first | apply Kd.R_alloc | apply Kd.R_drewN | apply Kd.R_drew)); exact Kd.R_mono (Kd.R_far (p := ⟨gb243, 2, none⟩) (Kd.R_far (p := ⟨gb243, 1, none⟩) (Kd.R_far (p := ⟨gb243, 0, none⟩) (Rt HO237.out BK243.out) (fun _ hk => hk.2) (.slice Ao39 t232.length co39)) (fun _ hk => hk.2) (.slice Ao41 t235.length co41)) (fun _ hk => hk.2) (.slice Ao42 t238.length co42)) (fun _ hk => trivial)))⟩; have n2_ : Aside0 (Kd.R k48 48 w43 w.heap.size (fun _ => True) (.slice Ao42 t238.length co42) t238) := ⟨(by rw [hw]; exact (by (with_reducible repeat (first | apply Kd.R_alloc | apply Kd.R_drewN | apply Kd.R_drew)); exact Kd.R_mono (Kd.R_far (p := ⟨gb243, 2, none⟩) (Kd.R_far (p := ⟨gb243, 1, none⟩) (Kd.R_far (p := ⟨gb243, 0, none⟩) (Rt HO240.out BK243.out) (fun _ hk => hk.2) (.slice Ao39 t232.length co39)) (fun _ hk => hk.2) (.slice Ao41 t235.length co41)) (fun _ hk => hk.2) (.slice Ao42 t238.length co42)) (fun _ hk => trivial)))⟩; have n3_ : Aside0 (w43.heap[gb243]? = some (.cells #[.slice Ao39 t232.length co39, .slice Ao41 t235.length co41, .slice Ao42 t238.length co42] 26 (0, 0))) := ⟨(by rw [hw]; exact (by (with_reducible repeat (first | refine blk_drewN ?_ _ | refine blk_drew ?_ | refine blk_alloc ?_ _)); refine blk_put (cs := #[.slice Ao39 t232.length co39, .slice Ao41 t235.length co41, .slice none 0 0]) ?_ 2 _ rfl; (with_reducible repeat (first | refine blk_drewN ?_ _ | refine blk_drew ?_ | refine blk_alloc ?_ _)); refine blk_put (cs := #[.slice Ao39 t232.length co39, .slice none 0 0, .slice none 0 0]) ?_ 1 _ rfl; (with_reducible repeat (first | refine blk_drewN ?_ _ | refine blk_drew ?_ | refine blk_alloc ?_ _)); refine blk_put (cs := #[.slice none 0 0, .slice none 0 0, .slice none 0 0]) ?_ 0 _ rfl; (with_reducible repeat (first | refine blk_drewN ?_ _ | refine blk_drew ?_ | refine blk_alloc ?_ _)); exact BK243.out))⟩; have n4_ : Aside0 (Below w.heap.size w w43) := ⟨(by rw [hw]; exact (W1 HB.out GE243.out))⟩; clear hw; clear HO234; clear HO237; clear HO240; clear BK243; clear HB; have HO234 := n0_; have HO237 := n1_; have HO240 := n2_; have BK243 := n3_; have HB := n4_; clear n0_ n1_ n2_ n3_ n4_; have hcz44_0 : w43.cell? ⟨gb243, 0, none⟩ = some (.slice Ao39 t232.length co39) := (blk_cell BK243.out 0).trans rfl; have hcz44_1 : w43.cell? ⟨gb243, 1, none⟩ = some (.slice Ao41 t235.length co41) := (blk_cell BK243.out 1).trans rfl; have hcz44_2 : w43.cell? ⟨gb243, 2, none⟩ = some (.slice Ao42 t238.length co42) := (blk_cell BK243.out 2).trans rfl; have hfz44_0 := blk_frozen BK243.out 0; have hfz44_1 := blk_frozen BK243.out 1; have hfz44_2 := blk_frozen BK243.out 2; have p244 : 0 ≤ (0 : Int) := (by omega); have q244 : 0 < (t232.length : Int) := of_decide_eq_true (by first | (with_reducible assumption) | assumption); obtain ⟨ad244, A244_0, c244_0, e244, hx244_0, hl244_0, hi244_0⟩ := at_L3 (Kd.N_reads' HO234.out).2.2 0 p244 q244; cases e244; obtain ⟨ce244, hce244, hMe244, hcc244⟩ := Kd.N_get HO234.out [] 0 p244 (by first | exact q244 | exact of_decide_eq_true (by first | (with_reducible assumption) | assumption) | (have e_ := (Kd.N_reads' HO234.out).1; omega)); obtain ⟨ua244_0, uc244_0, rfl, ul244_0, ge244_0⟩ := Kd.FK_slice_open hMe244; have hv244_0 := hcc244 0 _ rfl; rw [Nat.add_zero, show ((Kd.slice 46 k46)).sz = 1 from rfl, Nat.mul_one] at hv244_0; replace hv244_0 := Option.some.inj (hv244_0.symm.trans hx244_0); injection hv244_0 with hva_ hvn_ hvc_; rw [hva_] at ge244_0; rw [hvc_] at ul244_0; have HL244_0 := Aside0.mk (show Kd.V k46 46 _ w.heap.size _ _ (rd_L3 t232 0) from Kd.V_mk ul244_0 ge244_0); clear hva_ hvn_ hvc_ ge244_0 ul244_0; clear hcc244 hce244; have qi244 : (0 < t232.length) = True := eq_true (by omega); (try rw [show ((0 : Int)).toNat = 0 from rfl] at hx244_0); (try rw [Addr.add_zero'] at hx244_0); have HR244_0 := Aside0.mk hi244_0; have HC244_0 := Aside0.mk hl244_0; clear hi244_0 hl244_0; replace p244 := eq_true p244; replace q244 := eq_true q244; have p245 : 0 ≤ (0 : Int) := (by omega); have q245 : 0 < (t232.length : Int) := of_decide_eq_true (by first | (with_reducible assumption) | assumption); obtain ⟨ad245, A245_0, c245_0, e245, hx245_0, hl245_0, hi245_0⟩ := at_L3 (Kd.N_reads' HO234.out).2.2 0 p245 q245; obtain rfl : ad244 = ad245 := (by injection e245); obtain ⟨ce245, hce245, hMe245, hcc245⟩ := Kd.N_get HO234.out [] 0 p245 (by first | exact q245 | exact of_decide_eq_true (by first | (with_reducible assumption) | assumption) | (have e_ := (Kd.N_reads' HO234.out).1; omega)); obtain ⟨ua245_0, uc245_0, rfl, ul245_0, ge245_0⟩ := Kd.FK_slice_open hMe245; have hv245_0 := hcc245 0 _ rfl; rw [Nat.add_zero, show ((Kd.slice 46 k46)).sz = 1 from rfl, Nat.mul_one] at hv245_0; replace hv245_0 := Option.some.inj (hv245_0.symm.trans hx245_0); injection hv245_0 with hva_ hvn_ hvc_; rw [hva_] at ge245_0; rw [hvc_] at ul245_0; have HL245_0 := Aside0.mk (show Kd.V k46 46 _ w.heap.size _ _ (rd_L3 t232 0) from Kd.V_mk ul245_0 ge245_0); clear hva_ hvn_ hvc_ ge245_0 ul245_0; clear hcc245 hce245; have qi245 : (0 < t232.length) = True := eq_true (by omega); (try rw [show ((0 : Int)).toNat = 0 from rfl] at hx245_0); (try rw [Addr.add_zero'] at hx245_0); have HR245_0 := Aside0.mk hi245_0; have HC245_0 := Aside0.mk hl245_0; clear hi245_0 hl245_0; replace p245 := eq_true p245; replace q245 := eq_true q245; have ea_ := Option.some.inj (hx244_0.symm.trans hx245_0); injection ea_ with ea_ en_ ec_; subst ea_; subst ec_; clear en_; have p246 : 0 ≤ (1 : Int) := (by omega); have q246 : 1 < ((rd_L3 t232 0).length : Int) := of_decide_eq_true (by first | (with_reducible assumption) | assumption); obtain ⟨ad246, e246, hx246_0, hx246_1, hx246_2⟩ := at_T46 (by repeat (first | (with_reducible exact HR245_0.out) | (with_reducible refine Kd.C_alloc ?_ _) | (with_reducible refine Kd.C_drewN ?_ _) | (with_reducible refine Kd.C_drew ?_) | exact HR245_0.out)) 1 p246 q246; cases e246; (try simp only [show (1 : Int).toNat = 1 from rfl, Nat.reduceMul, Nat.reduceEqDiff, Go.Addr.add, ↓reduceIte] at hx246_0); (try simp only [show (1 : Int).toNat = 1 from rfl, Nat.reduceMul, Nat.reduceEqDiff, Go.Addr.add, ↓reduceIte] at hx246_1); (try simp only [show (1 : Int).toNat = 1 from rfl, Nat.reduceMul, Nat.reduceEqDiff, Go.Addr.add, ↓reduceIte] at hx246_2); have qi246 : (1 < (rd_L3 t232 0).length) = True := eq_true (by omega); (try rw [show ((1 : Int)).toNat = 1 from rfl] at hx246_0); (try rw [show 1 * 3 = 3 from rfl] at hx246_0); (try rw [show ((1 : Int)).toNat = 1 from rfl] at hx246_1); (try rw [show 1 * 3 = 3 from rfl] at hx246_1); (try rw [show ((1 : Int)).toNat = 1 from rfl] at hx246_2); (try rw [show 1 * 3 = 3 from rfl] at hx246_2); replace p246 := eq_true p246; replace q246 := eq_true q246))
        go_ret
        exact ⟨by first | rfl | (simp [errW_none, errW_some] <;> rfl) | (simp [*, errW_none, errW_some] <;> rfl) | (simp [errW_none, errW_some, Go.Proofs.YtmocooihkobdjaaDoor.listNe]; done), by repeat (first | (with_reducible first | exact HB.out | apply below_alloc | apply pw_below_drewN | apply below_drew1 | refine below_set ?_ GE243.out) | exact HB.out)⟩
      ·rw [if_neg c7] at H
       exact absurd H (by simp)
     ·rw [if_neg c6] at H
      have c6b0 : (((rd_L3 t232 0).length : Int) == 2) = false := beq_eq_false_iff_ne.mpr c6
      have c6b1 : (((rd_L3 t232 0).length : Int) != 2) = true := bne_iff_ne.mpr c6
      obtain rfl := Option.some.inj H
      go_enter Tryd.func21, Tryd.ntmps21
      go_wp2_with (first | ((with_reducible refine gate_callee (f := 19) rfl ?_); refine goesL_ (some 5) rfl rfl Tryd.func19 (by kernel_rfl) rfl #[.string (⟨#[105, 110, 115, 116, 97, 108, 108, 32, 97, 97, 32, 124, 32, 98, 98, 10, 35, 32, 120, 10, 97, 118, 111, 105, 100, 32, 99, 99, 10]⟩ : ByteArray)] rfl (by (try simp only [List.map_toArray, List.map_cons, List.map_nil]); first | done | rfl | (simp only [List.length_drop, List.length_take]; rfl) | (simp; done)) ?_; (with_reducible refine (request_Read.calls k (⟨#[105, 110, 115, 116, 97, 108, 108, 32, 97, 97, 32, 124, 32, 98, 98, 10, 35, 32, 120, 10, 97, 118, 111, 105, 100, 32, 99, 99, 10]⟩ : ByteArray) t232 t235 t238 t241 t242 _ ?side1 A1.out).mono ?_); (case side1 => exact GG.below HG.out (W0 HB.out)); rintro e w45 ⟨v233, v236, v239, rfl, ho0, ho1, ho2, hb⟩; refine ⟨_, rfl, ?_⟩; have n0_ := Aside0.mk (Kd.N_lower (Kd.N_mono (ok' := fun k_ => some k_ ≠ (v236 : Value).ownBlock ∧ some k_ ≠ (v239 : Value).ownBlock) ho0 (fun k_ hk_ => ⟨hk_.2.1, hk_.2.2⟩)) (below_size (W0 HB.out))); have n1_ := Aside0.mk (Kd.R_lower (Kd.R_mono (ok' := fun k_ => True) ho1 (fun _ hk_ => trivial)) (below_size (W0 HB.out))); have n2_ := Aside0.mk (Kd.R_lower (Kd.R_mono (ok' := fun k_ => True) ho2 (fun _ hk_ => trivial)) (below_size (W0 HB.out))); have n3_ := Aside0.mk (below_step (W0 HB.out) hb); clear HB; have HO234 := n0_; have HO237 := n1_; have HO240 := n2_; have HB := n3_; clear n0_ n1_ n2_ n3_; (try clear hb); (try clear hb2); (try clear hk); (try clear hi); (try clear ho0); (try clear ho1); (try clear ho2)) | ((with_reducible refine gate_dst (N := 1) rfl ?_); (try (refine gate_guard (by rfl) ?_; dsimp only)); refine box_event ?hg (N := 1) ?hd (cs := #[.slice none 0 0, .slice none 0 0, .slice none 0 0]) (t := 26) ?hr ?_; (case hd => rfl); (case hg => rfl); (case hr => first | (go_simp; done) | (go_simp; rfl)); intro gb243 hg w46 hbox hb; have n0_ := Aside0.mk (Kd.N_below (Kd.N_elderB (Nq HO234.out) gb243 (Nat.le_of_eq hg.symm)) hb); have n1_ := Aside0.mk (Kd.R_below (Rq HO237.out) hb); have n2_ := Aside0.mk (Kd.R_below (Rq HO240.out) hb); have n3_ := Aside0.mk (below_step (W0 HB.out) hb); have n4_ := Aside0.mk (hbox); have n5_ := Aside0.mk ((by rw [hg]; exact (below_size (W0 HB.out)) : w.heap.size ≤ gb243)); have n6_ := Aside0.mk ((by rw [hg]; exact (below_size (W0 HB.out)) : w.heap.size ≤ gb243)); clear HO234; clear HO237; clear HO240; clear HB; have HO234 := n0_; have HO237 := n1_; have HO240 := n2_; have HB := n3_; have BK243 := n4_; have GW243 := n5_; have GE243 := n6_; clear n0_ n1_ n2_ n3_ n4_ n5_ n6_; clear hb hbox hg; obtain ⟨Ao47, co47, eo47⟩ := Kd.N_slice HO234.out; subst eo47; have hcz48_0 : w46.cell? ⟨gb243, 0, none⟩ = some (.slice none 0 0) := (blk_cell BK243.out 0).trans rfl; have hcz48_1 : w46.cell? ⟨gb243, 1, none⟩ = some (.slice none 0 0) := (blk_cell BK243.out 1).trans rfl; have hcz48_2 : w46.cell? ⟨gb243, 2, none⟩ = some (.slice none 0 0) := (blk_cell BK243.out 2).trans rfl; have hfz48_0 := blk_frozen BK243.out 0; have hfz48_1 := blk_frozen BK243.out 1; have hfz48_2 := blk_frozen BK243.out 2; obtain ⟨Ao49, co49, eo49⟩ := Kd.R_slice HO237.out; subst eo49; obtain ⟨Ao50, co50, eo50⟩ := Kd.R_slice HO240.out; subst eo50) | ((with_reducible refine gate_store (t := 26) (p := 1) rfl ?_); refine store_event (t := 26) (p := 1) (v := ?vo_w51) (w1 := (((w46.setCell ⟨gb243, 0, none⟩ (.slice Ao47 t232.length co47)).setCell ⟨gb243, 1, none⟩ (.slice Ao49 t235.length co49)).setCell ⟨gb243, 2, none⟩ (.slice Ao50 t238.length co50))) ?hg ?ho ?hn ?hr ?_; (case ho => rfl); (case hg => rfl); (case hn => rfl); (case hr => first | (go_simp; done) | (go_simp; rfl)); intro w51 hw; have n0_ : Aside0 (Kd.N (Kd.slice 46 k46) 23 w51 w.heap.size (fun k_ => some k_ ≠ (.slice Ao49 t235.length co49 : Value).ownBlock ∧ some k_ ≠ (.slice Ao50 t238.length co50 : Value).ownBlock ∧ k_ ≠ gb243) (.slice Ao47 t232.length co47) t232) := ⟨(by rw [hw]; exact (by (with_reducible repeat (first | apply Kd.N_alloc | apply Kd.N_drewN | apply Kd.N_drew)); exact Kd.N_mono (Kd.N_far (p := ⟨gb243, 2, none⟩) (Kd.N_far (p := ⟨gb243, 1, none⟩) (Kd.N_far (p := ⟨gb243, 0, none⟩) (Kd.N_mono HO234.out (fun k_ hk => (⟨hk, hk.2⟩ : _ ∧ k_ ≠ gb243))) (fun _ hk => hk.2) (.slice Ao47 t232.length co47)) (fun _ hk => hk.2) (.slice Ao49 t235.length co49)) (fun _ hk => hk.2) (.slice Ao50 t238.length co50)) (fun _ hk => ⟨hk.1.1.1, ⟨hk.1.1.2, hk.1.2⟩⟩)))⟩; have n1_ : Aside0 (Kd.R k46 46 w51 w.heap.size (fun _ => True) (.slice Ao49 t235.length co49) t235) := ⟨(by rw [hw]; exact (by (with_reducible repeat (first | apply Kd.R_alloc | apply Kd.R_drewN | apply Kd.R_drew)); exact Kd.R_mono (Kd.R_far (p := ⟨gb243, 2, none⟩) (Kd.R_far (p := ⟨gb243, 1, none⟩) (Kd.R_far (p := ⟨gb243, 0, none⟩) (Rt HO237.out BK243.out) (fun _ hk => hk.2) (.slice Ao47 t232.length co47)) (fun _ hk => hk.2) (.slice Ao49 t235.length co49)) (fun _ hk => hk.2) (.slice Ao50 t238.length co50)) (fun _ hk => trivial)))⟩; have n2_ : Aside0 (Kd.R k48 48 w51 w.heap.size (fun _ => True) (.slice Ao50 t238.length co50) t238) := ⟨(by rw [hw]; exact (by (with_reducible repeat (first | apply Kd.R_alloc | apply Kd.R_drewN | apply Kd.R_drew)); exact Kd.R_mono (Kd.R_far (p := ⟨gb243, 2, none⟩) (Kd.R_far (p := ⟨gb243, 1, none⟩) (Kd.R_far (p := ⟨gb243, 0, none⟩) (Rt HO240.out BK243.out) (fun _ hk => hk.2) (.slice Ao47 t232.length co47)) (fun _ hk => hk.2) (.slice Ao49 t235.length co49)) (fun _ hk => hk.2) (.slice Ao50 t238.length co50)) (fun _ hk => trivial)))⟩; have n3_ : Aside0 (w51.heap[gb243]? = some (.cells #[.slice Ao47 t232.length co47, .slice Ao49 t235.length co49, .slice Ao50 t238.length co50] 26 (0, 0))) := ⟨(by rw [hw]; exact (by (with_reducible repeat (first | refine blk_drewN ?_ _ | refine blk_drew ?_ | refine blk_alloc ?_ _)); refine blk_put (cs := #[.slice Ao47 t232.length co47, .slice Ao49 t235.length co49, .slice none 0 0]) ?_ 2 _ rfl; (with_reducible repeat (first | refine blk_drewN ?_ _ | refine blk_drew ?_ | refine blk_alloc ?_ _)); refine blk_put (cs := #[.slice Ao47 t232.length co47, .slice none 0 0, .slice none 0 0]) ?_ 1 _ rfl; (with_reducible repeat (first | refine blk_drewN ?_ _ | refine blk_drew ?_ | refine blk_alloc ?_ _)); refine blk_put (cs := #[.slice none 0 0, .slice none 0 0, .slice none 0 0]) ?_ 0 _ rfl; (with_reducible repeat (first | refine blk_drewN ?_ _ | refine blk_drew ?_ | refine blk_alloc ?_ _)); exact BK243.out))⟩; have n4_ : Aside0 (Below w.heap.size w w51) := ⟨(by rw [hw]; exact (W1 HB.out GE243.out))⟩; clear hw; clear HO234; clear HO237; clear HO240; clear BK243; clear HB; have HO234 := n0_; have HO237 := n1_; have HO240 := n2_; have BK243 := n3_; have HB := n4_; clear n0_ n1_ n2_ n3_ n4_; have hcz52_0 : w51.cell? ⟨gb243, 0, none⟩ = some (.slice Ao47 t232.length co47) := (blk_cell BK243.out 0).trans rfl; have hcz52_1 : w51.cell? ⟨gb243, 1, none⟩ = some (.slice Ao49 t235.length co49) := (blk_cell BK243.out 1).trans rfl; have hcz52_2 : w51.cell? ⟨gb243, 2, none⟩ = some (.slice Ao50 t238.length co50) := (blk_cell BK243.out 2).trans rfl; have hfz52_0 := blk_frozen BK243.out 0; have hfz52_1 := blk_frozen BK243.out 1; have hfz52_2 := blk_frozen BK243.out 2; have p244 : 0 ≤ (0 : Int) := (by omega); have q244 : 0 < (t232.length : Int) := of_decide_eq_true (by first | (with_reducible assumption) | assumption); obtain ⟨ad244, A244_0, c244_0, e244, hx244_0, hl244_0, hi244_0⟩ := at_L3 (Kd.N_reads' HO234.out).2.2 0 p244 q244; cases e244; obtain ⟨ce244, hce244, hMe244, hcc244⟩ := Kd.N_get HO234.out [] 0 p244 (by first | exact q244 | exact of_decide_eq_true (by first | (with_reducible assumption) | assumption) | (have e_ := (Kd.N_reads' HO234.out).1; omega)); obtain ⟨ua244_0, uc244_0, rfl, ul244_0, ge244_0⟩ := Kd.FK_slice_open hMe244; have hv244_0 := hcc244 0 _ rfl; rw [Nat.add_zero, show ((Kd.slice 46 k46)).sz = 1 from rfl, Nat.mul_one] at hv244_0; replace hv244_0 := Option.some.inj (hv244_0.symm.trans hx244_0); injection hv244_0 with hva_ hvn_ hvc_; rw [hva_] at ge244_0; rw [hvc_] at ul244_0; have HL244_0 := Aside0.mk (show Kd.V k46 46 _ w.heap.size _ _ (rd_L3 t232 0) from Kd.V_mk ul244_0 ge244_0); clear hva_ hvn_ hvc_ ge244_0 ul244_0; clear hcc244 hce244; have qi244 : (0 < t232.length) = True := eq_true (by omega); (try rw [show ((0 : Int)).toNat = 0 from rfl] at hx244_0); (try rw [Addr.add_zero'] at hx244_0); have HR244_0 := Aside0.mk hi244_0; have HC244_0 := Aside0.mk hl244_0; clear hi244_0 hl244_0; replace p244 := eq_true p244; replace q244 := eq_true q244))
      go_ret
      exact ⟨by first | rfl | (simp [errW_none, errW_some] <;> rfl) | (simp [*, errW_none, errW_some] <;> rfl) | (simp [errW_none, errW_some, Go.Proofs.YtmocooihkobdjaaDoor.listNe]; done), by repeat (first | (with_reducible first | exact HB.out | apply below_alloc | apply pw_below_drewN | apply below_drew1 | refine below_set ?_ GE243.out) | exact HB.out)⟩
    ·rw [if_neg c5] at H
     exact absurd H (by simp)
   ·rw [if_neg c4] at H
    have c4b0 : ((t232.length : Int) == 1) = false := beq_eq_false_iff_ne.mpr c4
    have c4b1 : ((t232.length : Int) != 1) = true := bne_iff_ne.mpr c4
    obtain rfl := Option.some.inj H
    go_enter Tryd.func21, Tryd.ntmps21
    go_wp2_with (first | ((with_reducible refine gate_callee (f := 19) rfl ?_); refine goesL_ (some 5) rfl rfl Tryd.func19 (by kernel_rfl) rfl #[.string (⟨#[105, 110, 115, 116, 97, 108, 108, 32, 97, 97, 32, 124, 32, 98, 98, 10, 35, 32, 120, 10, 97, 118, 111, 105, 100, 32, 99, 99, 10]⟩ : ByteArray)] rfl (by (try simp only [List.map_toArray, List.map_cons, List.map_nil]); first | done | rfl | (simp only [List.length_drop, List.length_take]; rfl) | (simp; done)) ?_; (with_reducible refine (request_Read.calls k (⟨#[105, 110, 115, 116, 97, 108, 108, 32, 97, 97, 32, 124, 32, 98, 98, 10, 35, 32, 120, 10, 97, 118, 111, 105, 100, 32, 99, 99, 10]⟩ : ByteArray) t232 t235 t238 t241 t242 _ ?side1 A1.out).mono ?_); (case side1 => exact GG.below HG.out (W0 HB.out)); rintro e w53 ⟨v233, v236, v239, rfl, ho0, ho1, ho2, hb⟩; refine ⟨_, rfl, ?_⟩; have n0_ := Aside0.mk (Kd.N_lower (Kd.N_mono (ok' := fun k_ => some k_ ≠ (v236 : Value).ownBlock ∧ some k_ ≠ (v239 : Value).ownBlock) ho0 (fun k_ hk_ => ⟨hk_.2.1, hk_.2.2⟩)) (below_size (W0 HB.out))); have n1_ := Aside0.mk (Kd.R_lower (Kd.R_mono (ok' := fun k_ => True) ho1 (fun _ hk_ => trivial)) (below_size (W0 HB.out))); have n2_ := Aside0.mk (Kd.R_lower (Kd.R_mono (ok' := fun k_ => True) ho2 (fun _ hk_ => trivial)) (below_size (W0 HB.out))); have n3_ := Aside0.mk (below_step (W0 HB.out) hb); clear HB; have HO234 := n0_; have HO237 := n1_; have HO240 := n2_; have HB := n3_; clear n0_ n1_ n2_ n3_; (try clear hb); (try clear hb2); (try clear hk); (try clear hi); (try clear ho0); (try clear ho1); (try clear ho2)) | ((with_reducible refine gate_dst (N := 1) rfl ?_); (try (refine gate_guard (by rfl) ?_; dsimp only)); refine box_event ?hg (N := 1) ?hd (cs := #[.slice none 0 0, .slice none 0 0, .slice none 0 0]) (t := 26) ?hr ?_; (case hd => rfl); (case hg => rfl); (case hr => first | (go_simp; done) | (go_simp; rfl)); intro gb243 hg w54 hbox hb; have n0_ := Aside0.mk (Kd.N_below (Kd.N_elderB (Nq HO234.out) gb243 (Nat.le_of_eq hg.symm)) hb); have n1_ := Aside0.mk (Kd.R_below (Rq HO237.out) hb); have n2_ := Aside0.mk (Kd.R_below (Rq HO240.out) hb); have n3_ := Aside0.mk (below_step (W0 HB.out) hb); have n4_ := Aside0.mk (hbox); have n5_ := Aside0.mk ((by rw [hg]; exact (below_size (W0 HB.out)) : w.heap.size ≤ gb243)); have n6_ := Aside0.mk ((by rw [hg]; exact (below_size (W0 HB.out)) : w.heap.size ≤ gb243)); clear HO234; clear HO237; clear HO240; clear HB; have HO234 := n0_; have HO237 := n1_; have HO240 := n2_; have HB := n3_; have BK243 := n4_; have GW243 := n5_; have GE243 := n6_; clear n0_ n1_ n2_ n3_ n4_ n5_ n6_; clear hb hbox hg; obtain ⟨Ao55, co55, eo55⟩ := Kd.N_slice HO234.out; subst eo55; have hcz56_0 : w54.cell? ⟨gb243, 0, none⟩ = some (.slice none 0 0) := (blk_cell BK243.out 0).trans rfl; have hcz56_1 : w54.cell? ⟨gb243, 1, none⟩ = some (.slice none 0 0) := (blk_cell BK243.out 1).trans rfl; have hcz56_2 : w54.cell? ⟨gb243, 2, none⟩ = some (.slice none 0 0) := (blk_cell BK243.out 2).trans rfl; have hfz56_0 := blk_frozen BK243.out 0; have hfz56_1 := blk_frozen BK243.out 1; have hfz56_2 := blk_frozen BK243.out 2; obtain ⟨Ao57, co57, eo57⟩ := Kd.R_slice HO237.out; subst eo57; obtain ⟨Ao58, co58, eo58⟩ := Kd.R_slice HO240.out; subst eo58))
    go_ret
    exact ⟨by first | rfl | (simp [errW_none, errW_some] <;> rfl) | (simp [*, errW_none, errW_some] <;> rfl) | (simp [errW_none, errW_some, Go.Proofs.YtmocooihkobdjaaDoor.listNe]; done), by repeat (first | (with_reducible first | exact HB.out | apply below_alloc | apply pw_below_drewN | apply below_drew1 | refine below_set ?_ GE243.out) | exact HB.out)⟩
  ·rw [if_neg c3] at H
   have c3b0 : (t242 == 0) = false := beq_eq_false_iff_ne.mpr c3
   have c3b1 : (t242 != 0) = true := bne_iff_ne.mpr c3
   obtain rfl := Option.some.inj H
   go_enter Tryd.func21, Tryd.ntmps21
   go_wp2_with (first | ((with_reducible refine gate_callee (f := 19) rfl ?_); refine goesL_ (some 5) rfl rfl Tryd.func19 (by kernel_rfl) rfl #[.string (⟨#[105, 110, 115, 116, 97, 108, 108, 32, 97, 97, 32, 124, 32, 98, 98, 10, 35, 32, 120, 10, 97, 118, 111, 105, 100, 32, 99, 99, 10]⟩ : ByteArray)] rfl (by (try simp only [List.map_toArray, List.map_cons, List.map_nil]); first | done | rfl | (simp only [List.length_drop, List.length_take]; rfl) | (simp; done)) ?_; (with_reducible refine (request_Read.calls k (⟨#[105, 110, 115, 116, 97, 108, 108, 32, 97, 97, 32, 124, 32, 98, 98, 10, 35, 32, 120, 10, 97, 118, 111, 105, 100, 32, 99, 99, 10]⟩ : ByteArray) t232 t235 t238 t241 t242 _ ?side1 A1.out).mono ?_); (case side1 => exact GG.below HG.out (W0 HB.out)); rintro e w59 ⟨v233, v236, v239, rfl, ho0, ho1, ho2, hb⟩; refine ⟨_, rfl, ?_⟩; have n0_ := Aside0.mk (Kd.N_lower (Kd.N_mono (ok' := fun k_ => some k_ ≠ (v236 : Value).ownBlock ∧ some k_ ≠ (v239 : Value).ownBlock) ho0 (fun k_ hk_ => ⟨hk_.2.1, hk_.2.2⟩)) (below_size (W0 HB.out))); have n1_ := Aside0.mk (Kd.R_lower (Kd.R_mono (ok' := fun k_ => True) ho1 (fun _ hk_ => trivial)) (below_size (W0 HB.out))); have n2_ := Aside0.mk (Kd.R_lower (Kd.R_mono (ok' := fun k_ => True) ho2 (fun _ hk_ => trivial)) (below_size (W0 HB.out))); have n3_ := Aside0.mk (below_step (W0 HB.out) hb); clear HB; have HO234 := n0_; have HO237 := n1_; have HO240 := n2_; have HB := n3_; clear n0_ n1_ n2_ n3_; (try clear hb); (try clear hb2); (try clear hk); (try clear hi); (try clear ho0); (try clear ho1); (try clear ho2)) | ((with_reducible refine gate_dst (N := 1) rfl ?_); (try (refine gate_guard (by rfl) ?_; dsimp only)); refine box_event ?hg (N := 1) ?hd (cs := #[.slice none 0 0, .slice none 0 0, .slice none 0 0]) (t := 26) ?hr ?_; (case hd => rfl); (case hg => rfl); (case hr => first | (go_simp; done) | (go_simp; rfl)); intro gb243 hg w60 hbox hb; have n0_ := Aside0.mk (Kd.N_below (Kd.N_elderB (Nq HO234.out) gb243 (Nat.le_of_eq hg.symm)) hb); have n1_ := Aside0.mk (Kd.R_below (Rq HO237.out) hb); have n2_ := Aside0.mk (Kd.R_below (Rq HO240.out) hb); have n3_ := Aside0.mk (below_step (W0 HB.out) hb); have n4_ := Aside0.mk (hbox); have n5_ := Aside0.mk ((by rw [hg]; exact (below_size (W0 HB.out)) : w.heap.size ≤ gb243)); have n6_ := Aside0.mk ((by rw [hg]; exact (below_size (W0 HB.out)) : w.heap.size ≤ gb243)); clear HO234; clear HO237; clear HO240; clear HB; have HO234 := n0_; have HO237 := n1_; have HO240 := n2_; have HB := n3_; have BK243 := n4_; have GW243 := n5_; have GE243 := n6_; clear n0_ n1_ n2_ n3_ n4_ n5_ n6_; clear hb hbox hg; obtain ⟨Ao61, co61, eo61⟩ := Kd.N_slice HO234.out; subst eo61; have hcz62_0 : w60.cell? ⟨gb243, 0, none⟩ = some (.slice none 0 0) := (blk_cell BK243.out 0).trans rfl; have hcz62_1 : w60.cell? ⟨gb243, 1, none⟩ = some (.slice none 0 0) := (blk_cell BK243.out 1).trans rfl; have hcz62_2 : w60.cell? ⟨gb243, 2, none⟩ = some (.slice none 0 0) := (blk_cell BK243.out 2).trans rfl; have hfz62_0 := blk_frozen BK243.out 0; have hfz62_1 := blk_frozen BK243.out 1; have hfz62_2 := blk_frozen BK243.out 2; obtain ⟨Ao63, co63, eo63⟩ := Kd.R_slice HO237.out; subst eo63; obtain ⟨Ao64, co64, eo64⟩ := Kd.R_slice HO240.out; subst eo64))
   go_ret
   exact ⟨by first | rfl | (simp [errW_none, errW_some] <;> rfl) | (simp [*, errW_none, errW_some] <;> rfl) | (simp [errW_none, errW_some, Go.Proofs.YtmocooihkobdjaaDoor.listNe]; done), by repeat (first | (with_reducible first | exact HB.out | apply below_alloc | apply pw_below_drewN | apply below_drew1 | refine below_set ?_ GE243.out) | exact HB.out)⟩
 ·rw [if_neg c2] at H
  have c2b0 : (t241 == 0) = false := beq_eq_false_iff_ne.mpr c2
  have c2b1 : (t241 != 0) = true := bne_iff_ne.mpr c2
  obtain rfl := Option.some.inj H
  go_enter Tryd.func21, Tryd.ntmps21
  go_wp2_with (first | ((with_reducible refine gate_callee (f := 19) rfl ?_); refine goesL_ (some 5) rfl rfl Tryd.func19 (by kernel_rfl) rfl #[.string (⟨#[105, 110, 115, 116, 97, 108, 108, 32, 97, 97, 32, 124, 32, 98, 98, 10, 35, 32, 120, 10, 97, 118, 111, 105, 100, 32, 99, 99, 10]⟩ : ByteArray)] rfl (by (try simp only [List.map_toArray, List.map_cons, List.map_nil]); first | done | rfl | (simp only [List.length_drop, List.length_take]; rfl) | (simp; done)) ?_; (with_reducible refine (request_Read.calls k (⟨#[105, 110, 115, 116, 97, 108, 108, 32, 97, 97, 32, 124, 32, 98, 98, 10, 35, 32, 120, 10, 97, 118, 111, 105, 100, 32, 99, 99, 10]⟩ : ByteArray) t232 t235 t238 t241 t242 _ ?side1 A1.out).mono ?_); (case side1 => exact GG.below HG.out (W0 HB.out)); rintro e w65 ⟨v233, v236, v239, rfl, ho0, ho1, ho2, hb⟩; refine ⟨_, rfl, ?_⟩; have n0_ := Aside0.mk (Kd.N_lower (Kd.N_mono (ok' := fun k_ => some k_ ≠ (v236 : Value).ownBlock ∧ some k_ ≠ (v239 : Value).ownBlock) ho0 (fun k_ hk_ => ⟨hk_.2.1, hk_.2.2⟩)) (below_size (W0 HB.out))); have n1_ := Aside0.mk (Kd.R_lower (Kd.R_mono (ok' := fun k_ => True) ho1 (fun _ hk_ => trivial)) (below_size (W0 HB.out))); have n2_ := Aside0.mk (Kd.R_lower (Kd.R_mono (ok' := fun k_ => True) ho2 (fun _ hk_ => trivial)) (below_size (W0 HB.out))); have n3_ := Aside0.mk (below_step (W0 HB.out) hb); clear HB; have HO234 := n0_; have HO237 := n1_; have HO240 := n2_; have HB := n3_; clear n0_ n1_ n2_ n3_; (try clear hb); (try clear hb2); (try clear hk); (try clear hi); (try clear ho0); (try clear ho1); (try clear ho2)) | ((with_reducible refine gate_dst (N := 1) rfl ?_); (try (refine gate_guard (by rfl) ?_; dsimp only)); refine box_event ?hg (N := 1) ?hd (cs := #[.slice none 0 0, .slice none 0 0, .slice none 0 0]) (t := 26) ?hr ?_; (case hd => rfl); (case hg => rfl); (case hr => first | (go_simp; done) | (go_simp; rfl)); intro gb243 hg w66 hbox hb; have n0_ := Aside0.mk (Kd.N_below (Kd.N_elderB (Nq HO234.out) gb243 (Nat.le_of_eq hg.symm)) hb); have n1_ := Aside0.mk (Kd.R_below (Rq HO237.out) hb); have n2_ := Aside0.mk (Kd.R_below (Rq HO240.out) hb); have n3_ := Aside0.mk (below_step (W0 HB.out) hb); have n4_ := Aside0.mk (hbox); have n5_ := Aside0.mk ((by rw [hg]; exact (below_size (W0 HB.out)) : w.heap.size ≤ gb243)); have n6_ := Aside0.mk ((by rw [hg]; exact (below_size (W0 HB.out)) : w.heap.size ≤ gb243)); clear HO234; clear HO237; clear HO240; clear HB; have HO234 := n0_; have HO237 := n1_; have HO240 := n2_; have HB := n3_; have BK243 := n4_; have GW243 := n5_; have GE243 := n6_; clear n0_ n1_ n2_ n3_ n4_ n5_ n6_; clear hb hbox hg; obtain ⟨Ao67, co67, eo67⟩ := Kd.N_slice HO234.out; subst eo67; have hcz68_0 : w66.cell? ⟨gb243, 0, none⟩ = some (.slice none 0 0) := (blk_cell BK243.out 0).trans rfl; have hcz68_1 : w66.cell? ⟨gb243, 1, none⟩ = some (.slice none 0 0) := (blk_cell BK243.out 1).trans rfl; have hcz68_2 : w66.cell? ⟨gb243, 2, none⟩ = some (.slice none 0 0) := (blk_cell BK243.out 2).trans rfl; have hfz68_0 := blk_frozen BK243.out 0; have hfz68_1 := blk_frozen BK243.out 1; have hfz68_2 := blk_frozen BK243.out 2; obtain ⟨Ao69, co69, eo69⟩ := Kd.R_slice HO237.out; subst eo69; obtain ⟨Ao70, co70, eo70⟩ := Kd.R_slice HO240.out; subst eo70))
  go_ret
  exact ⟨by first | rfl | (simp [errW_none, errW_some] <;> rfl) | (simp [*, errW_none, errW_some] <;> rfl) | (simp [errW_none, errW_some, Go.Proofs.YtmocooihkobdjaaDoor.listNe]; done), by repeat (first | (with_reducible first | exact HB.out | apply below_alloc | apply pw_below_drewN | apply below_drew1 | refine below_set ?_ GE243.out) | exact HB.out)⟩
end Go.Proofs.YtmocooihkobdjaaDoor.G
end
section
namespace Go.Proofs.YtmocooihkobdjaaDoor.G
open Go.RowKit Go.Proofs.YtmocooihkobdjaaDoorW.PrintWords Go.Proofs.YtmocooihkobdjaaDoorW.PrintLast Go.Proofs.YtmocooihkobdjaaDoorW.PrintMore
attribute [local go_sem] max2_int min2_int max_two min_two max_three min_three max_four min_four
set_option linter.unusedVariables false
set_option linter.unusedSimpArgs false
def depotlaw24_RequestAgain.f (k : Nat) (a0 : ByteArray) : Option (Bool) := (request_Read.f k a0).bind fun bt249 => (if bt249.2.2.2.1 = 0 then ((depotref00_CopyRequest.f k bt249.1 bt249.2.1 bt249.2.2.1).bind fun bt262 => ((request_Write.f k bt262.1 bt262.2.1 bt262.2.2).bind fun bt271 => ((request_Read.f k bt271.1).bind fun bt273 => ((depotref00_CopyRequest.f k bt249.1 bt249.2.1 bt249.2.2.1).bind fun bt285 => ((request_Formed.f k bt285.1 bt285.2.1 bt285.2.2).bind fun t294 => (if t294 = true then (if bt271.2 = 0 then (if bt273.2.2.2.1 = 0 then (if bt273.2.2.2.2 = 0 then ((depotref00_SameRequest.f k bt273.1 bt273.2.1 bt273.2.2.1 bt249.1 bt249.2.1 bt249.2.2.1).bind fun t295 => (if t295 = true then ((depotlaw24_awake.f k).bind fun t296 => (some t296)) else (some false))) else (some false)) else (some false)) else (some false)) else (some false))))))) else (if (bt249.1.length : Int) = 0 then (if (bt249.2.1.length : Int) = 0 then (if (bt249.2.2.1.length : Int) = 0 then ((depotlaw24_awake.f k).bind fun t261 => (some t261)) else (some false)) else (some false)) else (some false)))
theorem depotlaw24_RequestAgain.mono : ∀ a0 k, LeO (depotlaw24_RequestAgain.f k a0) (depotlaw24_RequestAgain.f (k + 1) a0) := by
 intro a0 k
 unfold depotlaw24_RequestAgain.f
 repeat' first
   | (with_reducible exact depotlaw24_awake.mono _)
   | (with_reducible exact depotref00_CopyRequest.mono _ _ _ _)
   | (with_reducible exact depotref00_SameRequest.mono _ _ _ _ _ _ _)
   | (with_reducible exact request_Formed.mono _ _ _ _)
   | (with_reducible exact request_Read.mono _ _)
   | (with_reducible exact request_Write.mono _ _ _ _)
   | (with_reducible exact LeO.refl _)
   | (with_reducible exact LeO.none _)
   | (with_reducible refine LeO.ite ?_ ?_)
   | (with_reducible refine LeO.bind ?_ (fun _ => ?_))
   | exact depotlaw24_awake.mono _
   | exact depotref00_CopyRequest.mono _ _ _ _
   | exact depotref00_SameRequest.mono _ _ _ _ _ _ _
   | exact request_Formed.mono _ _ _ _
   | exact request_Read.mono _ _
   | exact request_Write.mono _ _ _ _
   | exact LeO.none _
   | refine LeO.ite ?_ ?_
   | refine LeO.bind ?_ (fun _ => ?_)
set_option maxHeartbeats 8000000 in
set_option maxRecDepth 100000 in
theorem depotlaw24_RequestAgain.calls (k : Nat) (a0 : ByteArray) (r : Bool) (w : World) (hG : GG w) (h : depotlaw24_RequestAgain.f k a0 = some r) (hr : r = true) :
  Calls Tryd.prog 9 #[.string a0] w fun e w' => e = .returned (.bool r) ∧ Below w.heap.size w w' := by
 have hu26 := Tryd.underlying26
 have HB := Aside0.mk (Below.refl w.heap.size w)
 have HG := Aside0.mk hG
 clear hG
 have H : ((request_Read.f k a0).bind fun bt249 => (if bt249.2.2.2.1 = 0 then ((depotref00_CopyRequest.f k bt249.1 bt249.2.1 bt249.2.2.1).bind fun bt262 => ((request_Write.f k bt262.1 bt262.2.1 bt262.2.2).bind fun bt271 => ((request_Read.f k bt271.1).bind fun bt273 => ((depotref00_CopyRequest.f k bt249.1 bt249.2.1 bt249.2.2.1).bind fun bt285 => ((request_Formed.f k bt285.1 bt285.2.1 bt285.2.2).bind fun t294 => (if t294 = true then (if bt271.2 = 0 then (if bt273.2.2.2.1 = 0 then (if bt273.2.2.2.2 = 0 then ((depotref00_SameRequest.f k bt273.1 bt273.2.1 bt273.2.2.1 bt249.1 bt249.2.1 bt249.2.2.1).bind fun t295 => (if t295 = true then ((depotlaw24_awake.f k).bind fun t296 => (some t296)) else (some false))) else (some false)) else (some false)) else (some false)) else (some false))))))) else (if (bt249.1.length : Int) = 0 then (if (bt249.2.1.length : Int) = 0 then (if (bt249.2.2.1.length : Int) = 0 then ((depotlaw24_awake.f k).bind fun t261 => (some t261)) else (some false)) else (some false)) else (some false)))) = some r := h
 clear h
 replace H := Option.bind_eq_some_iff.mp H
 obtain ⟨⟨t249, t252, t255, t258, t259⟩, A20, H⟩ := H
 replace H : (if t258 = 0 then ((depotref00_CopyRequest.f k t249 t252 t255).bind fun bt262 => ((request_Write.f k bt262.1 bt262.2.1 bt262.2.2).bind fun bt271 => ((request_Read.f k bt271.1).bind fun bt273 => ((depotref00_CopyRequest.f k t249 t252 t255).bind fun bt285 => ((request_Formed.f k bt285.1 bt285.2.1 bt285.2.2).bind fun t294 => (if t294 = true then (if bt271.2 = 0 then (if bt273.2.2.2.1 = 0 then (if bt273.2.2.2.2 = 0 then ((depotref00_SameRequest.f k bt273.1 bt273.2.1 bt273.2.2.1 t249 t252 t255).bind fun t295 => (if t295 = true then ((depotlaw24_awake.f k).bind fun t296 => (some t296)) else (some false))) else (some false)) else (some false)) else (some false)) else (some false))))))) else (if (t249.length : Int) = 0 then (if (t252.length : Int) = 0 then (if (t255.length : Int) = 0 then ((depotlaw24_awake.f k).bind fun t261 => (some t261)) else (some false)) else (some false)) else (some false))) = some r := H
 have A2 := Aside0.mk A20
 clear A20
 by_cases c3 : t258 = 0
 ·rw [if_pos c3] at H
  have c3b0 : (t258 == 0) = true := beq_iff_eq.mpr c3
  have c3b1 : (t258 != 0) = false := bne_eq_false_iff_eq.mpr c3
  clear c3
  replace H := Option.bind_eq_some_iff.mp H
  obtain ⟨⟨t262, t265, t268⟩, A40, H⟩ := H
  replace H : ((request_Write.f k t262 t265 t268).bind fun bt271 => ((request_Read.f k bt271.1).bind fun bt273 => ((depotref00_CopyRequest.f k t249 t252 t255).bind fun bt285 => ((request_Formed.f k bt285.1 bt285.2.1 bt285.2.2).bind fun t294 => (if t294 = true then (if bt271.2 = 0 then (if bt273.2.2.2.1 = 0 then (if bt273.2.2.2.2 = 0 then ((depotref00_SameRequest.f k bt273.1 bt273.2.1 bt273.2.2.1 t249 t252 t255).bind fun t295 => (if t295 = true then ((depotlaw24_awake.f k).bind fun t296 => (some t296)) else (some false))) else (some false)) else (some false)) else (some false)) else (some false)))))) = some r := H
  have A4 := Aside0.mk A40
  clear A40
  replace H := Option.bind_eq_some_iff.mp H
  obtain ⟨⟨t271, t272⟩, A50, H⟩ := H
  replace H : ((request_Read.f k t271).bind fun bt273 => ((depotref00_CopyRequest.f k t249 t252 t255).bind fun bt285 => ((request_Formed.f k bt285.1 bt285.2.1 bt285.2.2).bind fun t294 => (if t294 = true then (if t272 = 0 then (if bt273.2.2.2.1 = 0 then (if bt273.2.2.2.2 = 0 then ((depotref00_SameRequest.f k bt273.1 bt273.2.1 bt273.2.2.1 t249 t252 t255).bind fun t295 => (if t295 = true then ((depotlaw24_awake.f k).bind fun t296 => (some t296)) else (some false))) else (some false)) else (some false)) else (some false)) else (some false))))) = some r := H
  have A5 := Aside0.mk A50
  clear A50
  replace H := Option.bind_eq_some_iff.mp H
  obtain ⟨⟨t273, t276, t279, t282, t283⟩, A60, H⟩ := H
  replace H : ((depotref00_CopyRequest.f k t249 t252 t255).bind fun bt285 => ((request_Formed.f k bt285.1 bt285.2.1 bt285.2.2).bind fun t294 => (if t294 = true then (if t272 = 0 then (if t282 = 0 then (if t283 = 0 then ((depotref00_SameRequest.f k t273 t276 t279 t249 t252 t255).bind fun t295 => (if t295 = true then ((depotlaw24_awake.f k).bind fun t296 => (some t296)) else (some false))) else (some false)) else (some false)) else (some false)) else (some false)))) = some r := H
  have A6 := Aside0.mk A60
  clear A60
  replace H := Option.bind_eq_some_iff.mp H
  obtain ⟨⟨t285, t288, t291⟩, A70, H⟩ := H
  replace H : ((request_Formed.f k t285 t288 t291).bind fun t294 => (if t294 = true then (if t272 = 0 then (if t282 = 0 then (if t283 = 0 then ((depotref00_SameRequest.f k t273 t276 t279 t249 t252 t255).bind fun t295 => (if t295 = true then ((depotlaw24_awake.f k).bind fun t296 => (some t296)) else (some false))) else (some false)) else (some false)) else (some false)) else (some false))) = some r := H
  have A7 := Aside0.mk A70
  clear A70
  replace H := Option.bind_eq_some_iff.mp H
  obtain ⟨t294, A80, H⟩ := H
  replace H : (if t294 = true then (if t272 = 0 then (if t282 = 0 then (if t283 = 0 then ((depotref00_SameRequest.f k t273 t276 t279 t249 t252 t255).bind fun t295 => (if t295 = true then ((depotlaw24_awake.f k).bind fun t296 => (some t296)) else (some false))) else (some false)) else (some false)) else (some false)) else (some false)) = some r := H
  have A8 := Aside0.mk A80
  clear A80
  by_cases c9 : t294 = true
  ·subst c9
   have H1 : (if t272 = 0 then (if t282 = 0 then (if t283 = 0 then ((depotref00_SameRequest.f k t273 t276 t279 t249 t252 t255).bind fun t295 => (if t295 = true then ((depotlaw24_awake.f k).bind fun t296 => (some t296)) else (some false))) else (some false)) else (some false)) else (some false)) = some r := by rw [if_pos rfl] at H; exact H
   clear H
   have H := H1
   clear H1
   by_cases c10 : t272 = 0
   ·rw [if_pos c10] at H
    have c10b0 : (t272 == 0) = true := beq_iff_eq.mpr c10
    have c10b1 : (t272 != 0) = false := bne_eq_false_iff_eq.mpr c10
    clear c10
    by_cases c11 : t282 = 0
    ·rw [if_pos c11] at H
     have c11b0 : (t282 == 0) = true := beq_iff_eq.mpr c11
     have c11b1 : (t282 != 0) = false := bne_eq_false_iff_eq.mpr c11
     clear c11
     by_cases c12 : t283 = 0
     ·rw [if_pos c12] at H
      have c12b0 : (t283 == 0) = true := beq_iff_eq.mpr c12
      have c12b1 : (t283 != 0) = false := bne_eq_false_iff_eq.mpr c12
      clear c12
      replace H := Option.bind_eq_some_iff.mp H
      obtain ⟨t295, A130, H⟩ := H
      replace H : (if t295 = true then ((depotlaw24_awake.f k).bind fun t296 => (some t296)) else (some false)) = some r := H
      have A13 := Aside0.mk A130
      clear A130
      by_cases c14 : t295 = true
      ·subst c14
       have H1 : ((depotlaw24_awake.f k).bind fun t296 => (some t296)) = some r := by rw [if_pos rfl] at H; exact H
       clear H
       have H := H1
       clear H1
       replace H := Option.bind_eq_some_iff.mp H
       obtain ⟨t296, A150, H⟩ := H
       replace H : (some t296) = some r := H
       have A15 := Aside0.mk A150
       clear A150
       obtain rfl := Option.some.inj H
       go_enter Tryd.func9, Tryd.ntmps9
       go_wp2_with (first | ((with_reducible refine gate_callee (f := 19) rfl ?_); refine goesL_ (some 13) rfl rfl Tryd.func19 (by kernel_rfl) rfl #[.string a0] rfl (by (try simp only [List.map_toArray, List.map_cons, List.map_nil]); first | done | rfl | (simp only [List.length_drop, List.length_take]; rfl) | (simp; done)) ?_; (with_reducible refine (request_Read.calls k a0 t249 t252 t255 t258 t259 _ ?side1 A2.out).mono ?_); (case side1 => exact GG.below HG.out (W0 HB.out)); rintro e w16 ⟨v250, v253, v256, rfl, ho0, ho1, ho2, hb⟩; refine ⟨_, rfl, ?_⟩; have n0_ := Aside0.mk (Kd.N_lower (Kd.N_mono (ok' := fun k_ => some k_ ≠ (v253 : Value).ownBlock ∧ some k_ ≠ (v256 : Value).ownBlock) ho0 (fun k_ hk_ => ⟨hk_.2.1, hk_.2.2⟩)) (below_size (W0 HB.out))); have n1_ := Aside0.mk (Kd.R_lower (Kd.R_mono (ok' := fun k_ => True) ho1 (fun _ hk_ => trivial)) (below_size (W0 HB.out))); have n2_ := Aside0.mk (Kd.R_lower (Kd.R_mono (ok' := fun k_ => True) ho2 (fun _ hk_ => trivial)) (below_size (W0 HB.out))); have n3_ := Aside0.mk (below_step (W0 HB.out) hb); clear HB; have HO251 := n0_; have HO254 := n1_; have HO257 := n2_; have HB := n3_; clear n0_ n1_ n2_ n3_; (try clear hb); (try clear hb2); (try clear hk); (try clear hi); (try clear ho0); (try clear ho1); (try clear ho2)) | ((with_reducible refine gate_dst (N := 3) rfl ?_); (try (refine gate_guard (by rfl) ?_; dsimp only)); refine box_event ?hg (N := 3) ?hd (cs := #[.slice none 0 0, .slice none 0 0, .slice none 0 0]) (t := 26) ?hr ?_; (case hd => rfl); (case hg => rfl); (case hr => first | (go_simp; done) | (go_simp; rfl)); intro gb260 hg w17 hbox hb; have n0_ := Aside0.mk (Kd.N_below (Kd.N_elderB (Nq HO251.out) gb260 (Nat.le_of_eq hg.symm)) hb); have n1_ := Aside0.mk (Kd.R_below (Rq HO254.out) hb); have n2_ := Aside0.mk (Kd.R_below (Rq HO257.out) hb); have n3_ := Aside0.mk (below_step (W0 HB.out) hb); have n4_ := Aside0.mk (hbox); have n5_ := Aside0.mk ((by rw [hg]; exact (below_size (W0 HB.out)) : w.heap.size ≤ gb260)); have n6_ := Aside0.mk ((by rw [hg]; exact (below_size (W0 HB.out)) : w.heap.size ≤ gb260)); clear HO251; clear HO254; clear HO257; clear HB; have HO251 := n0_; have HO254 := n1_; have HO257 := n2_; have HB := n3_; have BK260 := n4_; have GW260 := n5_; have GE260 := n6_; clear n0_ n1_ n2_ n3_ n4_ n5_ n6_; clear hb hbox hg; obtain ⟨Ao18, co18, eo18⟩ := Kd.N_slice HO251.out; subst eo18; have hcz19_0 : w17.cell? ⟨gb260, 0, none⟩ = some (.slice none 0 0) := (blk_cell BK260.out 0).trans rfl; have hcz19_1 : w17.cell? ⟨gb260, 1, none⟩ = some (.slice none 0 0) := (blk_cell BK260.out 1).trans rfl; have hcz19_2 : w17.cell? ⟨gb260, 2, none⟩ = some (.slice none 0 0) := (blk_cell BK260.out 2).trans rfl; have hfz19_0 := blk_frozen BK260.out 0; have hfz19_1 := blk_frozen BK260.out 1; have hfz19_2 := blk_frozen BK260.out 2; obtain ⟨Ao20, co20, eo20⟩ := Kd.R_slice HO254.out; subst eo20; obtain ⟨Ao21, co21, eo21⟩ := Kd.R_slice HO257.out; subst eo21) | ((with_reducible refine gate_callee (f := 12) rfl ?_); refine goesL_ (some 40) rfl rfl Tryd.func12 (by kernel_rfl) rfl #[.agg #[.slice Ao18 t249.length co18, .slice Ao20 t252.length co20, .slice Ao21 t255.length co21]] rfl (by (try simp only [List.map_toArray, List.map_cons, List.map_nil]); first | done | rfl | (simp only [List.length_drop, List.length_take]; rfl) | (simp; done)) ?_; (with_reducible refine (depotref00_CopyRequest.calls k _ _ t249 _ _ t252 _ _ t255 t262 t265 t268 _ ?side1 ?side2 ?side3 ?side4 ?side5 ?side6 A4.out).mono ?_); (case side1 => refine (Kd.N_reads' (e := 23) (base := w.heap.size) (ok := fun k_ => ((some k_ ≠ (.slice Ao20 t252.length co20 : Value).ownBlock ∧ some k_ ≠ (.slice Ao21 t255.length co21 : Value).ownBlock) ∧ k_ ≠ gb260)) (n := t249.length) (c := co18) ?_).2.2; exact (by (with_reducible repeat (first | apply Kd.N_alloc | apply Kd.N_drewN | apply Kd.N_drew)); exact (Kd.N_mono (Kd.N_far (p := ⟨gb260, 2, none⟩) (Kd.N_far (p := ⟨gb260, 1, none⟩) (Kd.N_far (p := ⟨gb260, 0, none⟩) (Kd.N_mono HO251.out (fun k_ hk => (⟨hk, hk.2⟩ : _ ∧ k_ ≠ gb260))) (fun _ hk => hk.2) (.slice Ao18 t249.length co18)) (fun _ hk => hk.2) (.slice Ao20 t252.length co20)) (fun _ hk => hk.2) (.slice Ao21 t255.length co21)) (fun _ h_ => h_.1)))); (case side2 => exact (Kd.N_reads' HO251.out).2.1); (case side3 => refine (Kd.R_reads' (e := 46) (base := w.heap.size) (ok := fun k_ => True) (n := t252.length) (c := co20) ?_).2.2; exact (by (with_reducible repeat (first | apply Kd.R_alloc | apply Kd.R_drewN | apply Kd.R_drew)); exact (Kd.R_mono (Kd.R_far (p := ⟨gb260, 2, none⟩) (Kd.R_far (p := ⟨gb260, 1, none⟩) (Kd.R_far (p := ⟨gb260, 0, none⟩) (Rt HO254.out BK260.out) (fun _ hk => hk.2) (.slice Ao18 t249.length co18)) (fun _ hk => hk.2) (.slice Ao20 t252.length co20)) (fun _ hk => hk.2) (.slice Ao21 t255.length co21)) (fun _ h_ => h_.1)))); (case side4 => exact (Kd.R_reads' HO254.out).2.1); (case side5 => refine (Kd.R_reads' (e := 48) (base := w.heap.size) (ok := fun k_ => True) (n := t255.length) (c := co21) ?_).2.2; exact (by (with_reducible repeat (first | apply Kd.R_alloc | apply Kd.R_drewN | apply Kd.R_drew)); exact (Kd.R_mono (Kd.R_far (p := ⟨gb260, 2, none⟩) (Kd.R_far (p := ⟨gb260, 1, none⟩) (Kd.R_far (p := ⟨gb260, 0, none⟩) (Rt HO257.out BK260.out) (fun _ hk => hk.2) (.slice Ao18 t249.length co18)) (fun _ hk => hk.2) (.slice Ao20 t252.length co20)) (fun _ hk => hk.2) (.slice Ao21 t255.length co21)) (fun _ h_ => h_.1)))); (case side6 => exact (Kd.R_reads' HO257.out).2.1); rintro e w22 ⟨v263, v266, v269, rfl, ho0, ho1, ho2, hb⟩; refine ⟨_, rfl, ?_⟩; have n0_ := Aside0.mk (Kd.N_mono (Kd.N_told (Kd.N_told (Kd.N_told (Kd.N_old (by (with_reducible repeat (first | apply Kd.N_alloc | apply Kd.N_drewN | apply Kd.N_drew)); exact (Kd.N_mono (Kd.N_far (p := ⟨gb260, 2, none⟩) (Kd.N_far (p := ⟨gb260, 1, none⟩) (Kd.N_far (p := ⟨gb260, 0, none⟩) (Kd.N_mono HO251.out (fun k_ hk => (⟨hk, hk.2⟩ : _ ∧ k_ ≠ gb260))) (fun _ hk => hk.2) (.slice Ao18 t249.length co18)) (fun _ hk => hk.2) (.slice Ao20 t252.length co20)) (fun _ hk => hk.2) (.slice Ao21 t255.length co21)) (fun _ h_ => h_.1))) hb) (by first | exact Kd.N_base ho0 | exact Kd.S_base ho0)) (Kd.R_base ho1)) (Kd.R_base ho2)) (fun _ h_ => h_.1)); have n1_ := Aside0.mk (Kd.R_elder' (by (with_reducible repeat (first | apply Kd.R_alloc | apply Kd.R_drewN | apply Kd.R_drew)); exact (Kd.R_mono (Kd.R_far (p := ⟨gb260, 2, none⟩) (Kd.R_far (p := ⟨gb260, 1, none⟩) (Kd.R_far (p := ⟨gb260, 0, none⟩) (Rt HO254.out BK260.out) (fun _ hk => hk.2) (.slice Ao18 t249.length co18)) (fun _ hk => hk.2) (.slice Ao20 t252.length co20)) (fun _ hk => hk.2) (.slice Ao21 t255.length co21)) (fun _ h_ => h_.1))) (Kd.R_base ho1) hb); have n2_ := Aside0.mk (Kd.R_elder' (by (with_reducible repeat (first | apply Kd.R_alloc | apply Kd.R_drewN | apply Kd.R_drew)); exact (Kd.R_mono (Kd.R_far (p := ⟨gb260, 2, none⟩) (Kd.R_far (p := ⟨gb260, 1, none⟩) (Kd.R_far (p := ⟨gb260, 0, none⟩) (Rt HO257.out BK260.out) (fun _ hk => hk.2) (.slice Ao18 t249.length co18)) (fun _ hk => hk.2) (.slice Ao20 t252.length co20)) (fun _ hk => hk.2) (.slice Ao21 t255.length co21)) (fun _ h_ => h_.1))) (Kd.R_base ho2) hb); have n3_ := Aside0.mk (Kd.N_lower (Kd.N_mono (ok' := fun k_ => some k_ ≠ (v266 : Value).ownBlock ∧ some k_ ≠ (v269 : Value).ownBlock ∧ some k_ ≠ (.slice Ao18 t249.length co18 : Value).ownBlock ∧ some k_ ≠ (.slice Ao20 t252.length co20 : Value).ownBlock ∧ some k_ ≠ (.slice Ao21 t255.length co21 : Value).ownBlock ∧ k_ ≠ gb260) (Kd.S_N (Kd.S_bound (Kd.S_apart' ho0 (Kd.R_typed ho2) (by decide)))) (fun k_ hk_ => ⟨hk_.1.1, hk_.1.2, (Kd.fresh' (Kd.N_lt (by (with_reducible repeat (first | apply Kd.N_alloc | apply Kd.N_drewN | apply Kd.N_drew)); exact (Kd.N_mono (Kd.N_far (p := ⟨gb260, 2, none⟩) (Kd.N_far (p := ⟨gb260, 1, none⟩) (Kd.N_far (p := ⟨gb260, 0, none⟩) (Kd.N_mono HO251.out (fun k_ hk => (⟨hk, hk.2⟩ : _ ∧ k_ ≠ gb260))) (fun _ hk => hk.2) (.slice Ao18 t249.length co18)) (fun _ hk => hk.2) (.slice Ao20 t252.length co20)) (fun _ hk => hk.2) (.slice Ao21 t255.length co21)) (fun _ h_ => h_.1)))) k_ hk_.2.1), (Kd.fresh' (Kd.R_lt (by (with_reducible repeat (first | apply Kd.R_alloc | apply Kd.R_drewN | apply Kd.R_drew)); exact (Kd.R_mono (Kd.R_far (p := ⟨gb260, 2, none⟩) (Kd.R_far (p := ⟨gb260, 1, none⟩) (Kd.R_far (p := ⟨gb260, 0, none⟩) (Rt HO254.out BK260.out) (fun _ hk => hk.2) (.slice Ao18 t249.length co18)) (fun _ hk => hk.2) (.slice Ao20 t252.length co20)) (fun _ hk => hk.2) (.slice Ao21 t255.length co21)) (fun _ h_ => h_.1)))) k_ hk_.2.1), (Kd.fresh' (Kd.R_lt (by (with_reducible repeat (first | apply Kd.R_alloc | apply Kd.R_drewN | apply Kd.R_drew)); exact (Kd.R_mono (Kd.R_far (p := ⟨gb260, 2, none⟩) (Kd.R_far (p := ⟨gb260, 1, none⟩) (Kd.R_far (p := ⟨gb260, 0, none⟩) (Rt HO257.out BK260.out) (fun _ hk => hk.2) (.slice Ao18 t249.length co18)) (fun _ hk => hk.2) (.slice Ao20 t252.length co20)) (fun _ hk => hk.2) (.slice Ao21 t255.length co21)) (fun _ h_ => h_.1)))) k_ hk_.2.1), (Kd.freshB (g := gb260) (o := .cells #[.slice Ao18 t249.length co18, .slice Ao20 t252.length co20, .slice Ao21 t255.length co21] 26 (0, 0)) (by (with_reducible repeat (first | refine blk_drewN ?_ _ | refine blk_drew ?_ | refine blk_alloc ?_ _)); refine blk_put (cs := #[.slice Ao18 t249.length co18, .slice Ao20 t252.length co20, .slice none 0 0]) ?_ 2 _ rfl; (with_reducible repeat (first | refine blk_drewN ?_ _ | refine blk_drew ?_ | refine blk_alloc ?_ _)); refine blk_put (cs := #[.slice Ao18 t249.length co18, .slice none 0 0, .slice none 0 0]) ?_ 1 _ rfl; (with_reducible repeat (first | refine blk_drewN ?_ _ | refine blk_drew ?_ | refine blk_alloc ?_ _)); refine blk_put (cs := #[.slice none 0 0, .slice none 0 0, .slice none 0 0]) ?_ 0 _ rfl; (with_reducible repeat (first | refine blk_drewN ?_ _ | refine blk_drew ?_ | refine blk_alloc ?_ _)); exact BK260.out) k_ hk_.2.1)⟩)) (below_size (W1 HB.out GE260.out))); have n4_ := Aside0.mk (Kd.R_lower (Kd.R_new' ho1 (Kd.R_lt (by (with_reducible repeat (first | apply Kd.R_alloc | apply Kd.R_drewN | apply Kd.R_drew)); exact (Kd.R_mono (Kd.R_far (p := ⟨gb260, 2, none⟩) (Kd.R_far (p := ⟨gb260, 1, none⟩) (Kd.R_far (p := ⟨gb260, 0, none⟩) (Rt HO254.out BK260.out) (fun _ hk => hk.2) (.slice Ao18 t249.length co18)) (fun _ hk => hk.2) (.slice Ao20 t252.length co20)) (fun _ hk => hk.2) (.slice Ao21 t255.length co21)) (fun _ h_ => h_.1))))) (below_size (W1 HB.out GE260.out))); have n5_ := Aside0.mk (Kd.R_lower (Kd.R_new' ho2 (Kd.R_lt (by (with_reducible repeat (first | apply Kd.R_alloc | apply Kd.R_drewN | apply Kd.R_drew)); exact (Kd.R_mono (Kd.R_far (p := ⟨gb260, 2, none⟩) (Kd.R_far (p := ⟨gb260, 1, none⟩) (Kd.R_far (p := ⟨gb260, 0, none⟩) (Rt HO257.out BK260.out) (fun _ hk => hk.2) (.slice Ao18 t249.length co18)) (fun _ hk => hk.2) (.slice Ao20 t252.length co20)) (fun _ hk => hk.2) (.slice Ao21 t255.length co21)) (fun _ h_ => h_.1))))) (below_size (W1 HB.out GE260.out))); have n6_ := Aside0.mk (blk_below (g := gb260) (o := .cells #[.slice Ao18 t249.length co18, .slice Ao20 t252.length co20, .slice Ao21 t255.length co21] 26 (0, 0)) (by (with_reducible repeat (first | refine blk_drewN ?_ _ | refine blk_drew ?_ | refine blk_alloc ?_ _)); refine blk_put (cs := #[.slice Ao18 t249.length co18, .slice Ao20 t252.length co20, .slice none 0 0]) ?_ 2 _ rfl; (with_reducible repeat (first | refine blk_drewN ?_ _ | refine blk_drew ?_ | refine blk_alloc ?_ _)); refine blk_put (cs := #[.slice Ao18 t249.length co18, .slice none 0 0, .slice none 0 0]) ?_ 1 _ rfl; (with_reducible repeat (first | refine blk_drewN ?_ _ | refine blk_drew ?_ | refine blk_alloc ?_ _)); refine blk_put (cs := #[.slice none 0 0, .slice none 0 0, .slice none 0 0]) ?_ 0 _ rfl; (with_reducible repeat (first | refine blk_drewN ?_ _ | refine blk_drew ?_ | refine blk_alloc ?_ _)); exact BK260.out) hb); have n7_ := Aside0.mk (below_step (W1 HB.out GE260.out) hb); clear HO251; clear HO254; clear HO257; clear BK260; clear HB; have HO251 := n0_; have HO254 := n1_; have HO257 := n2_; have HO264 := n3_; have HO267 := n4_; have HO270 := n5_; have BK260 := n6_; have HB := n7_; clear n0_ n1_ n2_ n3_ n4_ n5_ n6_ n7_; (try clear hb); (try clear hb2); (try clear hk); (try clear hi); (try clear ho0); (try clear ho1); (try clear ho2); obtain ⟨Ao23, co23, eo23⟩ := Kd.N_slice HO264.out; subst eo23; obtain ⟨Ao24, co24, eo24⟩ := Kd.R_slice HO267.out; subst eo24; obtain ⟨Ao25, co25, eo25⟩ := Kd.R_slice HO270.out; subst eo25) | ((with_reducible refine gate_callee (f := 17) rfl ?_); refine goesL_ (some 41) rfl rfl Tryd.func17 (by kernel_rfl) rfl #[.agg #[.slice Ao23 t262.length co23, .slice Ao24 t265.length co24, .slice Ao25 t268.length co25]] rfl (by (try simp only [List.map_toArray, List.map_cons, List.map_nil]); first | done | rfl | (simp only [List.length_drop, List.length_take]; rfl) | (simp; done)) ?_; (with_reducible refine (request_Write.calls k _ _ t262 _ _ t265 _ _ t268 t271 t272 _ ?side1 ?side2 ?side3 ?side4 ?side5 ?side6 ?side7 A5.out).mono ?_); (case side1 => repeat (first | exact (Kd.N_reads' HO264.out).2.2 | (with_reducible refine Kd.C_alloc ?_ _) | (with_reducible refine Kd.C_drewN ?_ _) | (with_reducible refine Kd.C_drew ?_))); (case side2 => exact (Kd.N_reads' HO264.out).2.1); (case side3 => repeat (first | exact (Kd.R_reads' HO267.out).2.2 | (with_reducible refine Kd.C_alloc ?_ _) | (with_reducible refine Kd.C_drewN ?_ _) | (with_reducible refine Kd.C_drew ?_))); (case side4 => exact (Kd.R_reads' HO267.out).2.1); (case side5 => repeat (first | exact (Kd.R_reads' HO270.out).2.2 | (with_reducible refine Kd.C_alloc ?_ _) | (with_reducible refine Kd.C_drewN ?_ _) | (with_reducible refine Kd.C_drew ?_))); (case side6 => exact (Kd.R_reads' HO270.out).2.1); (case side7 => exact GG.below HG.out (W1 HB.out GE260.out)); rintro e w26 ⟨rfl, hb⟩; refine ⟨_, rfl, ?_⟩; have n0_ := Aside0.mk (Kd.N_below (Nq HO251.out) hb); have n1_ := Aside0.mk (Kd.R_below (Rq HO254.out) hb); have n2_ := Aside0.mk (Kd.R_below (Rq HO257.out) hb); have n3_ := Aside0.mk (Kd.N_below (Nq HO264.out) hb); have n4_ := Aside0.mk (Kd.R_below (Rq HO267.out) hb); have n5_ := Aside0.mk (Kd.R_below (Rq HO270.out) hb); have n6_ := Aside0.mk (blk_below (g := gb260) (Bq BK260.out) hb); have n7_ := Aside0.mk (below_step (W1 HB.out GE260.out) hb); clear HO251; clear HO254; clear HO257; clear HO264; clear HO267; clear HO270; clear BK260; clear HB; have HO251 := n0_; have HO254 := n1_; have HO257 := n2_; have HO264 := n3_; have HO267 := n4_; have HO270 := n5_; have BK260 := n6_; have HB := n7_; clear n0_ n1_ n2_ n3_ n4_ n5_ n6_ n7_; (try clear hb); (try clear hb2); (try clear hk); (try clear hi)) | ((with_reducible refine gate_callee (f := 19) rfl ?_); refine goesL_ (some 46) rfl rfl Tryd.func19 (by kernel_rfl) rfl #[.string t271] rfl (by (try simp only [List.map_toArray, List.map_cons, List.map_nil]); first | done | rfl | (simp only [List.length_drop, List.length_take]; rfl) | (simp; done)) ?_; (with_reducible refine (request_Read.calls k t271 t273 t276 t279 t282 t283 _ ?side1 A6.out).mono ?_); (case side1 => exact GG.below HG.out (W1 HB.out GE260.out)); rintro e w27 ⟨v274, v277, v280, rfl, ho0, ho1, ho2, hb⟩; refine ⟨_, rfl, ?_⟩; have n0_ := Aside0.mk (Kd.N_mono (Kd.N_told (Kd.N_told (Kd.N_told (Kd.N_old (Nq HO251.out) hb) (by first | exact Kd.N_base ho0 | exact Kd.S_base ho0)) (Kd.R_base ho1)) (Kd.R_base ho2)) (fun _ h_ => h_.1)); have n1_ := Aside0.mk (Kd.R_elder' (Rq HO254.out) (Kd.R_base ho1) hb); have n2_ := Aside0.mk (Kd.R_elder' (Rq HO257.out) (Kd.R_base ho2) hb); have n3_ := Aside0.mk (Kd.N_mono (Kd.N_told (Kd.N_told (Kd.N_told (Kd.N_old (Nq HO264.out) hb) (by first | exact Kd.N_base ho0 | exact Kd.S_base ho0)) (Kd.R_base ho1)) (Kd.R_base ho2)) (fun _ h_ => h_.1)); have n4_ := Aside0.mk (Kd.R_elder' (Rq HO267.out) (Kd.R_base ho1) hb); have n5_ := Aside0.mk (Kd.R_elder' (Rq HO270.out) (Kd.R_base ho2) hb); have n6_ := Aside0.mk (Kd.N_lower (Kd.N_mono (ok' := fun k_ => some k_ ≠ (v277 : Value).ownBlock ∧ some k_ ≠ (v280 : Value).ownBlock ∧ some k_ ≠ (.slice Ao18 t249.length co18 : Value).ownBlock ∧ some k_ ≠ (.slice Ao20 t252.length co20 : Value).ownBlock ∧ some k_ ≠ (.slice Ao21 t255.length co21 : Value).ownBlock ∧ some k_ ≠ (.slice Ao23 t262.length co23 : Value).ownBlock ∧ some k_ ≠ (.slice Ao24 t265.length co24 : Value).ownBlock ∧ some k_ ≠ (.slice Ao25 t268.length co25 : Value).ownBlock ∧ k_ ≠ gb260) ho0 (fun k_ hk_ => ⟨hk_.2.1, hk_.2.2, (Kd.fresh' (Kd.N_lt (Nq HO251.out)) k_ hk_.1), (Kd.fresh' (Kd.R_lt (Rq HO254.out)) k_ hk_.1), (Kd.fresh' (Kd.R_lt (Rq HO257.out)) k_ hk_.1), (Kd.fresh' (Kd.N_lt (Nq HO264.out)) k_ hk_.1), (Kd.fresh' (Kd.R_lt (Rq HO267.out)) k_ hk_.1), (Kd.fresh' (Kd.R_lt (Rq HO270.out)) k_ hk_.1), (Kd.freshB (g := gb260) (Bq BK260.out) k_ hk_.1)⟩)) (below_size (W1 HB.out GE260.out))); have n7_ := Aside0.mk (Kd.R_lower (Kd.R_new' (Kd.R_new' (Kd.R_mono (ok' := fun k_ => True) ho1 (fun _ hk_ => trivial)) (Kd.R_lt (Rq HO254.out))) (Kd.R_lt (Rq HO267.out))) (below_size (W1 HB.out GE260.out))); have n8_ := Aside0.mk (Kd.R_lower (Kd.R_new' (Kd.R_new' (Kd.R_mono (ok' := fun k_ => True) ho2 (fun _ hk_ => trivial)) (Kd.R_lt (Rq HO257.out))) (Kd.R_lt (Rq HO270.out))) (below_size (W1 HB.out GE260.out))); have n9_ := Aside0.mk (blk_below (g := gb260) (Bq BK260.out) hb); have n10_ := Aside0.mk (below_step (W1 HB.out GE260.out) hb); clear HO251; clear HO254; clear HO257; clear HO264; clear HO267; clear HO270; clear BK260; clear HB; have HO251 := n0_; have HO254 := n1_; have HO257 := n2_; have HO264 := n3_; have HO267 := n4_; have HO270 := n5_; have HO275 := n6_; have HO278 := n7_; have HO281 := n8_; have BK260 := n9_; have HB := n10_; clear n0_ n1_ n2_ n3_ n4_ n5_ n6_ n7_ n8_ n9_ n10_; (try clear hb); (try clear hb2); (try clear hk); (try clear hi); (try clear ho0); (try clear ho1); (try clear ho2)) | ((with_reducible refine gate_dst (N := 8) rfl ?_); (try (refine gate_guard (by rfl) ?_; dsimp only)); refine box_event ?hg (N := 8) ?hd (cs := #[.slice none 0 0, .slice none 0 0, .slice none 0 0]) (t := 26) ?hr ?_; (case hd => rfl); (case hg => rfl); (case hr => first | (go_simp; done) | (go_simp; rfl)); intro gb284 hg w28 hbox hb; have n0_ := Aside0.mk (Kd.N_below (Kd.N_elderB (Nq HO251.out) gb284 (Nat.le_of_eq hg.symm)) hb); have n1_ := Aside0.mk (Kd.R_below (Rq HO254.out) hb); have n2_ := Aside0.mk (Kd.R_below (Rq HO257.out) hb); have n3_ := Aside0.mk (Kd.N_below (Kd.N_elderB (Nq HO264.out) gb284 (Nat.le_of_eq hg.symm)) hb); have n4_ := Aside0.mk (Kd.R_below (Rq HO267.out) hb); have n5_ := Aside0.mk (Kd.R_below (Rq HO270.out) hb); have n6_ := Aside0.mk (Kd.N_below (Kd.N_elderB (Nq HO275.out) gb284 (Nat.le_of_eq hg.symm)) hb); have n7_ := Aside0.mk (Kd.R_below (Rq HO278.out) hb); have n8_ := Aside0.mk (Kd.R_below (Rq HO281.out) hb); have n9_ := Aside0.mk (blk_below (g := gb260) (Bq BK260.out) hb); have n10_ := Aside0.mk (below_step (W1 HB.out GE260.out) hb); have n11_ := Aside0.mk (hbox); have n12_ := Aside0.mk ((by rw [hg]; exact (below_size (W1 HB.out GE260.out)) : w.heap.size ≤ gb284)); have n13_ := Aside0.mk ((by rw [hg]; exact (below_size (W1 HB.out GE260.out)) : w.heap.size ≤ gb284)); have n14_ := Aside0.mk ((by rw [hg]; exact Nat.ne_of_lt (blk_lt (g := gb260) (Bq BK260.out)) : gb260 ≠ gb284)); have n15_ := Aside0.mk ((by rw [hg]; exact Nat.ne_of_gt (blk_lt (g := gb260) (Bq BK260.out)) : gb284 ≠ gb260)); clear HO251; clear HO254; clear HO257; clear HO264; clear HO267; clear HO270; clear HO275; clear HO278; clear HO281; clear BK260; clear HB; have HO251 := n0_; have HO254 := n1_; have HO257 := n2_; have HO264 := n3_; have HO267 := n4_; have HO270 := n5_; have HO275 := n6_; have HO278 := n7_; have HO281 := n8_; have BK260 := n9_; have HB := n10_; have BK284 := n11_; have GW284 := n12_; have GE284 := n13_; have NB260_284 := n14_; have NB284_260 := n15_; clear n0_ n1_ n2_ n3_ n4_ n5_ n6_ n7_ n8_ n9_ n10_ n11_ n12_ n13_ n14_ n15_; clear hb hbox hg; obtain ⟨Ao29, co29, eo29⟩ := Kd.N_slice HO275.out; subst eo29; have hnb30 := NB284_260.out; have hnc30 := NB260_284.out; have hcz31_0 : w28.cell? ⟨gb284, 0, none⟩ = some (.slice none 0 0) := (blk_cell BK284.out 0).trans rfl; have hcz31_1 : w28.cell? ⟨gb284, 1, none⟩ = some (.slice none 0 0) := (blk_cell BK284.out 1).trans rfl; have hcz31_2 : w28.cell? ⟨gb284, 2, none⟩ = some (.slice none 0 0) := (blk_cell BK284.out 2).trans rfl; have hfz31_0 := blk_frozen BK284.out 0; have hfz31_1 := blk_frozen BK284.out 1; have hfz31_2 := blk_frozen BK284.out 2; obtain ⟨Ao32, co32, eo32⟩ := Kd.R_slice HO278.out; subst eo32; obtain ⟨Ao33, co33, eo33⟩ := Kd.R_slice HO281.out; subst eo33; have hcz34_0 : w28.cell? ⟨gb260, 0, none⟩ = some (.slice Ao18 t249.length co18) := (blk_cell BK260.out 0).trans rfl; have hcz34_1 : w28.cell? ⟨gb260, 1, none⟩ = some (.slice Ao20 t252.length co20) := (blk_cell BK260.out 1).trans rfl; have hcz34_2 : w28.cell? ⟨gb260, 2, none⟩ = some (.slice Ao21 t255.length co21) := (blk_cell BK260.out 2).trans rfl; have hfz34_0 := blk_frozen BK260.out 0; have hfz34_1 := blk_frozen BK260.out 1; have hfz34_2 := blk_frozen BK260.out 2) | ((with_reducible refine gate_callee (f := 12) rfl ?_); refine goesL_ (some 51) rfl rfl Tryd.func12 (by kernel_rfl) rfl #[.agg #[.slice Ao18 t249.length co18, .slice Ao20 t252.length co20, .slice Ao21 t255.length co21]] rfl (by (try simp only [List.map_toArray, List.map_cons, List.map_nil]); first | done | rfl | (simp only [List.length_drop, List.length_take]; rfl) | (simp; done)) ?_; (with_reducible refine (depotref00_CopyRequest.calls k _ _ t249 _ _ t252 _ _ t255 t285 t288 t291 _ ?side1 ?side2 ?side3 ?side4 ?side5 ?side6 A7.out).mono ?_); (case side1 => refine (Kd.N_reads' (e := 23) (base := w.heap.size) (ok := fun k_ => (((((((((some k_ ≠ (.slice Ao20 t252.length co20 : Value).ownBlock ∧ some k_ ≠ (.slice Ao21 t255.length co21 : Value).ownBlock) ∧ k_ ≠ gb260) ∧ some k_ ≠ (.slice Ao23 t262.length co23 : Value).ownBlock) ∧ some k_ ≠ (.slice Ao24 t265.length co24 : Value).ownBlock) ∧ some k_ ≠ (.slice Ao25 t268.length co25 : Value).ownBlock) ∧ some k_ ≠ (.slice Ao29 t273.length co29 : Value).ownBlock) ∧ some k_ ≠ (.slice Ao32 t276.length co32 : Value).ownBlock) ∧ some k_ ≠ (.slice Ao33 t279.length co33 : Value).ownBlock) ∧ k_ ≠ gb284)) (n := t249.length) (c := co18) ?_).2.2; exact (by (with_reducible repeat (first | apply Kd.N_alloc | apply Kd.N_drewN | apply Kd.N_drew)); exact (Kd.N_mono (Kd.N_far (p := ⟨gb284, 2, none⟩) (Kd.N_far (p := ⟨gb284, 1, none⟩) (Kd.N_far (p := ⟨gb284, 0, none⟩) (Kd.N_mono HO251.out (fun k_ hk => (⟨hk, hk.2⟩ : _ ∧ k_ ≠ gb284))) (fun _ hk => hk.2) (.slice Ao29 t273.length co29)) (fun _ hk => hk.2) (.slice Ao32 t276.length co32)) (fun _ hk => hk.2) (.slice Ao33 t279.length co33)) (fun _ h_ => h_.1)))); (case side2 => exact (Kd.N_reads' HO251.out).2.1); (case side3 => refine (Kd.R_reads' (e := 46) (base := w.heap.size) (ok := fun k_ => ((True ∧ some k_ ≠ (.slice Ao24 t265.length co24 : Value).ownBlock) ∧ some k_ ≠ (.slice Ao32 t276.length co32 : Value).ownBlock)) (n := t252.length) (c := co20) ?_).2.2; exact (by (with_reducible repeat (first | apply Kd.R_alloc | apply Kd.R_drewN | apply Kd.R_drew)); exact (Kd.R_mono (Kd.R_far (p := ⟨gb284, 2, none⟩) (Kd.R_far (p := ⟨gb284, 1, none⟩) (Kd.R_far (p := ⟨gb284, 0, none⟩) (Rt HO254.out BK284.out) (fun _ hk => hk.2) (.slice Ao29 t273.length co29)) (fun _ hk => hk.2) (.slice Ao32 t276.length co32)) (fun _ hk => hk.2) (.slice Ao33 t279.length co33)) (fun _ h_ => h_.1)))); (case side4 => exact (Kd.R_reads' HO254.out).2.1); (case side5 => refine (Kd.R_reads' (e := 48) (base := w.heap.size) (ok := fun k_ => ((True ∧ some k_ ≠ (.slice Ao25 t268.length co25 : Value).ownBlock) ∧ some k_ ≠ (.slice Ao33 t279.length co33 : Value).ownBlock)) (n := t255.length) (c := co21) ?_).2.2; exact (by (with_reducible repeat (first | apply Kd.R_alloc | apply Kd.R_drewN | apply Kd.R_drew)); exact (Kd.R_mono (Kd.R_far (p := ⟨gb284, 2, none⟩) (Kd.R_far (p := ⟨gb284, 1, none⟩) (Kd.R_far (p := ⟨gb284, 0, none⟩) (Rt HO257.out BK284.out) (fun _ hk => hk.2) (.slice Ao29 t273.length co29)) (fun _ hk => hk.2) (.slice Ao32 t276.length co32)) (fun _ hk => hk.2) (.slice Ao33 t279.length co33)) (fun _ h_ => h_.1)))); (case side6 => exact (Kd.R_reads' HO257.out).2.1); rintro e w35 ⟨v286, v289, v292, rfl, ho0, ho1, ho2, hb⟩; refine ⟨_, rfl, ?_⟩; have n0_ := Aside0.mk (Kd.N_mono (Kd.N_told (Kd.N_told (Kd.N_told (Kd.N_old (by (with_reducible repeat (first | apply Kd.N_alloc | apply Kd.N_drewN | apply Kd.N_drew)); exact (Kd.N_mono (Kd.N_far (p := ⟨gb284, 2, none⟩) (Kd.N_far (p := ⟨gb284, 1, none⟩) (Kd.N_far (p := ⟨gb284, 0, none⟩) (Kd.N_mono HO251.out (fun k_ hk => (⟨hk, hk.2⟩ : _ ∧ k_ ≠ gb284))) (fun _ hk => hk.2) (.slice Ao29 t273.length co29)) (fun _ hk => hk.2) (.slice Ao32 t276.length co32)) (fun _ hk => hk.2) (.slice Ao33 t279.length co33)) (fun _ h_ => h_.1))) hb) (by first | exact Kd.N_base ho0 | exact Kd.S_base ho0)) (Kd.R_base ho1)) (Kd.R_base ho2)) (fun _ h_ => h_.1)); have n1_ := Aside0.mk (Kd.R_elder' (by (with_reducible repeat (first | apply Kd.R_alloc | apply Kd.R_drewN | apply Kd.R_drew)); exact (Kd.R_mono (Kd.R_far (p := ⟨gb284, 2, none⟩) (Kd.R_far (p := ⟨gb284, 1, none⟩) (Kd.R_far (p := ⟨gb284, 0, none⟩) (Rt HO254.out BK284.out) (fun _ hk => hk.2) (.slice Ao29 t273.length co29)) (fun _ hk => hk.2) (.slice Ao32 t276.length co32)) (fun _ hk => hk.2) (.slice Ao33 t279.length co33)) (fun _ h_ => h_.1))) (Kd.R_base ho1) hb); have n2_ := Aside0.mk (Kd.R_elder' (by (with_reducible repeat (first | apply Kd.R_alloc | apply Kd.R_drewN | apply Kd.R_drew)); exact (Kd.R_mono (Kd.R_far (p := ⟨gb284, 2, none⟩) (Kd.R_far (p := ⟨gb284, 1, none⟩) (Kd.R_far (p := ⟨gb284, 0, none⟩) (Rt HO257.out BK284.out) (fun _ hk => hk.2) (.slice Ao29 t273.length co29)) (fun _ hk => hk.2) (.slice Ao32 t276.length co32)) (fun _ hk => hk.2) (.slice Ao33 t279.length co33)) (fun _ h_ => h_.1))) (Kd.R_base ho2) hb); have n3_ := Aside0.mk (Kd.N_mono (Kd.N_told (Kd.N_told (Kd.N_told (Kd.N_old (by (with_reducible repeat (first | apply Kd.N_alloc | apply Kd.N_drewN | apply Kd.N_drew)); exact (Kd.N_mono (Kd.N_far (p := ⟨gb284, 2, none⟩) (Kd.N_far (p := ⟨gb284, 1, none⟩) (Kd.N_far (p := ⟨gb284, 0, none⟩) (Kd.N_mono HO264.out (fun k_ hk => (⟨hk, hk.2⟩ : _ ∧ k_ ≠ gb284))) (fun _ hk => hk.2) (.slice Ao29 t273.length co29)) (fun _ hk => hk.2) (.slice Ao32 t276.length co32)) (fun _ hk => hk.2) (.slice Ao33 t279.length co33)) (fun _ h_ => h_.1))) hb) (by first | exact Kd.N_base ho0 | exact Kd.S_base ho0)) (Kd.R_base ho1)) (Kd.R_base ho2)) (fun _ h_ => h_.1)); have n4_ := Aside0.mk (Kd.R_elder' (by (with_reducible repeat (first | apply Kd.R_alloc | apply Kd.R_drewN | apply Kd.R_drew)); exact (Kd.R_mono (Kd.R_far (p := ⟨gb284, 2, none⟩) (Kd.R_far (p := ⟨gb284, 1, none⟩) (Kd.R_far (p := ⟨gb284, 0, none⟩) (Rt HO267.out BK284.out) (fun _ hk => hk.2) (.slice Ao29 t273.length co29)) (fun _ hk => hk.2) (.slice Ao32 t276.length co32)) (fun _ hk => hk.2) (.slice Ao33 t279.length co33)) (fun _ h_ => h_.1))) (Kd.R_base ho1) hb); have n5_ := Aside0.mk (Kd.R_elder' (by (with_reducible repeat (first | apply Kd.R_alloc | apply Kd.R_drewN | apply Kd.R_drew)); exact (Kd.R_mono (Kd.R_far (p := ⟨gb284, 2, none⟩) (Kd.R_far (p := ⟨gb284, 1, none⟩) (Kd.R_far (p := ⟨gb284, 0, none⟩) (Rt HO270.out BK284.out) (fun _ hk => hk.2) (.slice Ao29 t273.length co29)) (fun _ hk => hk.2) (.slice Ao32 t276.length co32)) (fun _ hk => hk.2) (.slice Ao33 t279.length co33)) (fun _ h_ => h_.1))) (Kd.R_base ho2) hb); have n6_ := Aside0.mk (Kd.N_mono (Kd.N_told (Kd.N_told (Kd.N_told (Kd.N_old (by (with_reducible repeat (first | apply Kd.N_alloc | apply Kd.N_drewN | apply Kd.N_drew)); exact (Kd.N_mono (Kd.N_far (p := ⟨gb284, 2, none⟩) (Kd.N_far (p := ⟨gb284, 1, none⟩) (Kd.N_far (p := ⟨gb284, 0, none⟩) (Kd.N_mono HO275.out (fun k_ hk => (⟨hk, hk.2⟩ : _ ∧ k_ ≠ gb284))) (fun _ hk => hk.2) (.slice Ao29 t273.length co29)) (fun _ hk => hk.2) (.slice Ao32 t276.length co32)) (fun _ hk => hk.2) (.slice Ao33 t279.length co33)) (fun _ h_ => h_.1))) hb) (by first | exact Kd.N_base ho0 | exact Kd.S_base ho0)) (Kd.R_base ho1)) (Kd.R_base ho2)) (fun _ h_ => h_.1)); have n7_ := Aside0.mk (Kd.R_elder' (by (with_reducible repeat (first | apply Kd.R_alloc | apply Kd.R_drewN | apply Kd.R_drew)); exact (Kd.R_mono (Kd.R_far (p := ⟨gb284, 2, none⟩) (Kd.R_far (p := ⟨gb284, 1, none⟩) (Kd.R_far (p := ⟨gb284, 0, none⟩) (Rt HO278.out BK284.out) (fun _ hk => hk.2) (.slice Ao29 t273.length co29)) (fun _ hk => hk.2) (.slice Ao32 t276.length co32)) (fun _ hk => hk.2) (.slice Ao33 t279.length co33)) (fun _ h_ => h_.1))) (Kd.R_base ho1) hb); have n8_ := Aside0.mk (Kd.R_elder' (by (with_reducible repeat (first | apply Kd.R_alloc | apply Kd.R_drewN | apply Kd.R_drew)); exact (Kd.R_mono (Kd.R_far (p := ⟨gb284, 2, none⟩) (Kd.R_far (p := ⟨gb284, 1, none⟩) (Kd.R_far (p := ⟨gb284, 0, none⟩) (Rt HO281.out BK284.out) (fun _ hk => hk.2) (.slice Ao29 t273.length co29)) (fun _ hk => hk.2) (.slice Ao32 t276.length co32)) (fun _ hk => hk.2) (.slice Ao33 t279.length co33)) (fun _ h_ => h_.1))) (Kd.R_base ho2) hb); have n9_ := Aside0.mk (Kd.N_lower (Kd.N_mono (ok' := fun k_ => some k_ ≠ (v289 : Value).ownBlock ∧ some k_ ≠ (v292 : Value).ownBlock ∧ some k_ ≠ (.slice Ao18 t249.length co18 : Value).ownBlock ∧ some k_ ≠ (.slice Ao20 t252.length co20 : Value).ownBlock ∧ some k_ ≠ (.slice Ao21 t255.length co21 : Value).ownBlock ∧ some k_ ≠ (.slice Ao23 t262.length co23 : Value).ownBlock ∧ some k_ ≠ (.slice Ao24 t265.length co24 : Value).ownBlock ∧ some k_ ≠ (.slice Ao25 t268.length co25 : Value).ownBlock ∧ some k_ ≠ (.slice Ao29 t273.length co29 : Value).ownBlock ∧ some k_ ≠ (.slice Ao32 t276.length co32 : Value).ownBlock ∧ some k_ ≠ (.slice Ao33 t279.length co33 : Value).ownBlock ∧ k_ ≠ gb260 ∧ k_ ≠ gb284) (Kd.S_N (Kd.S_bound (Kd.S_apart' ho0 (Kd.R_typed ho2) (by decide)))) (fun k_ hk_ => ⟨hk_.1.1, hk_.1.2, (Kd.fresh' (Kd.N_lt (by (with_reducible repeat (first | apply Kd.N_alloc | apply Kd.N_drewN | apply Kd.N_drew)); exact (Kd.N_mono (Kd.N_far (p := ⟨gb284, 2, none⟩) (Kd.N_far (p := ⟨gb284, 1, none⟩) (Kd.N_far (p := ⟨gb284, 0, none⟩) (Kd.N_mono HO251.out (fun k_ hk => (⟨hk, hk.2⟩ : _ ∧ k_ ≠ gb284))) (fun _ hk => hk.2) (.slice Ao29 t273.length co29)) (fun _ hk => hk.2) (.slice Ao32 t276.length co32)) (fun _ hk => hk.2) (.slice Ao33 t279.length co33)) (fun _ h_ => h_.1)))) k_ hk_.2.1), (Kd.fresh' (Kd.R_lt (by (with_reducible repeat (first | apply Kd.R_alloc | apply Kd.R_drewN | apply Kd.R_drew)); exact (Kd.R_mono (Kd.R_far (p := ⟨gb284, 2, none⟩) (Kd.R_far (p := ⟨gb284, 1, none⟩) (Kd.R_far (p := ⟨gb284, 0, none⟩) (Rt HO254.out BK284.out) (fun _ hk => hk.2) (.slice Ao29 t273.length co29)) (fun _ hk => hk.2) (.slice Ao32 t276.length co32)) (fun _ hk => hk.2) (.slice Ao33 t279.length co33)) (fun _ h_ => h_.1)))) k_ hk_.2.1), (Kd.fresh' (Kd.R_lt (by (with_reducible repeat (first | apply Kd.R_alloc | apply Kd.R_drewN | apply Kd.R_drew)); exact (Kd.R_mono (Kd.R_far (p := ⟨gb284, 2, none⟩) (Kd.R_far (p := ⟨gb284, 1, none⟩) (Kd.R_far (p := ⟨gb284, 0, none⟩) (Rt HO257.out BK284.out) (fun _ hk => hk.2) (.slice Ao29 t273.length co29)) (fun _ hk => hk.2) (.slice Ao32 t276.length co32)) (fun _ hk => hk.2) (.slice Ao33 t279.length co33)) (fun _ h_ => h_.1)))) k_ hk_.2.1), (Kd.fresh' (Kd.N_lt (by (with_reducible repeat (first | apply Kd.N_alloc | apply Kd.N_drewN | apply Kd.N_drew)); exact (Kd.N_mono (Kd.N_far (p := ⟨gb284, 2, none⟩) (Kd.N_far (p := ⟨gb284, 1, none⟩) (Kd.N_far (p := ⟨gb284, 0, none⟩) (Kd.N_mono HO264.out (fun k_ hk => (⟨hk, hk.2⟩ : _ ∧ k_ ≠ gb284))) (fun _ hk => hk.2) (.slice Ao29 t273.length co29)) (fun _ hk => hk.2) (.slice Ao32 t276.length co32)) (fun _ hk => hk.2) (.slice Ao33 t279.length co33)) (fun _ h_ => h_.1)))) k_ hk_.2.1), (Kd.fresh' (Kd.R_lt (by (with_reducible repeat (first | apply Kd.R_alloc | apply Kd.R_drewN | apply Kd.R_drew)); exact (Kd.R_mono (Kd.R_far (p := ⟨gb284, 2, none⟩) (Kd.R_far (p := ⟨gb284, 1, none⟩) (Kd.R_far (p := ⟨gb284, 0, none⟩) (Rt HO267.out BK284.out) (fun _ hk => hk.2) (.slice Ao29 t273.length co29)) (fun _ hk => hk.2) (.slice Ao32 t276.length co32)) (fun _ hk => hk.2) (.slice Ao33 t279.length co33)) (fun _ h_ => h_.1)))) k_ hk_.2.1), (Kd.fresh' (Kd.R_lt (by (with_reducible repeat (first | apply Kd.R_alloc | apply Kd.R_drewN | apply Kd.R_drew)); exact (Kd.R_mono (Kd.R_far (p := ⟨gb284, 2, none⟩) (Kd.R_far (p := ⟨gb284, 1, none⟩) (Kd.R_far (p := ⟨gb284, 0, none⟩) (Rt HO270.out BK284.out) (fun _ hk => hk.2) (.slice Ao29 t273.length co29)) (fun _ hk => hk.2) (.slice Ao32 t276.length co32)) (fun _ hk => hk.2) (.slice Ao33 t279.length co33)) (fun _ h_ => h_.1)))) k_ hk_.2.1), (Kd.fresh' (Kd.N_lt (by (with_reducible repeat (first | apply Kd.N_alloc | apply Kd.N_drewN | apply Kd.N_drew)); exact (Kd.N_mono (Kd.N_far (p := ⟨gb284, 2, none⟩) (Kd.N_far (p := ⟨gb284, 1, none⟩) (Kd.N_far (p := ⟨gb284, 0, none⟩) (Kd.N_mono HO275.out (fun k_ hk => (⟨hk, hk.2⟩ : _ ∧ k_ ≠ gb284))) (fun _ hk => hk.2) (.slice Ao29 t273.length co29)) (fun _ hk => hk.2) (.slice Ao32 t276.length co32)) (fun _ hk => hk.2) (.slice Ao33 t279.length co33)) (fun _ h_ => h_.1)))) k_ hk_.2.1), (Kd.fresh' (Kd.R_lt (by (with_reducible repeat (first | apply Kd.R_alloc | apply Kd.R_drewN | apply Kd.R_drew)); exact (Kd.R_mono (Kd.R_far (p := ⟨gb284, 2, none⟩) (Kd.R_far (p := ⟨gb284, 1, none⟩) (Kd.R_far (p := ⟨gb284, 0, none⟩) (Rt HO278.out BK284.out) (fun _ hk => hk.2) (.slice Ao29 t273.length co29)) (fun _ hk => hk.2) (.slice Ao32 t276.length co32)) (fun _ hk => hk.2) (.slice Ao33 t279.length co33)) (fun _ h_ => h_.1)))) k_ hk_.2.1), (Kd.fresh' (Kd.R_lt (by (with_reducible repeat (first | apply Kd.R_alloc | apply Kd.R_drewN | apply Kd.R_drew)); exact (Kd.R_mono (Kd.R_far (p := ⟨gb284, 2, none⟩) (Kd.R_far (p := ⟨gb284, 1, none⟩) (Kd.R_far (p := ⟨gb284, 0, none⟩) (Rt HO281.out BK284.out) (fun _ hk => hk.2) (.slice Ao29 t273.length co29)) (fun _ hk => hk.2) (.slice Ao32 t276.length co32)) (fun _ hk => hk.2) (.slice Ao33 t279.length co33)) (fun _ h_ => h_.1)))) k_ hk_.2.1), (Kd.freshB (g := gb260) (o := .cells #[.slice Ao18 t249.length co18, .slice Ao20 t252.length co20, .slice Ao21 t255.length co21] 26 (0, 0)) (by (with_reducible repeat (first | refine blk_drewN ?_ _ | refine blk_drew ?_ | refine blk_alloc ?_ _)); refine blk_far ?_ NB260_284.out _; (with_reducible repeat (first | refine blk_drewN ?_ _ | refine blk_drew ?_ | refine blk_alloc ?_ _)); refine blk_far ?_ NB260_284.out _; (with_reducible repeat (first | refine blk_drewN ?_ _ | refine blk_drew ?_ | refine blk_alloc ?_ _)); refine blk_far ?_ NB260_284.out _; (with_reducible repeat (first | refine blk_drewN ?_ _ | refine blk_drew ?_ | refine blk_alloc ?_ _)); exact BK260.out) k_ hk_.2.1), (Kd.freshB (g := gb284) (o := .cells #[.slice Ao29 t273.length co29, .slice Ao32 t276.length co32, .slice Ao33 t279.length co33] 26 (0, 0)) (by (with_reducible repeat (first | refine blk_drewN ?_ _ | refine blk_drew ?_ | refine blk_alloc ?_ _)); refine blk_put (cs := #[.slice Ao29 t273.length co29, .slice Ao32 t276.length co32, .slice none 0 0]) ?_ 2 _ rfl; (with_reducible repeat (first | refine blk_drewN ?_ _ | refine blk_drew ?_ | refine blk_alloc ?_ _)); refine blk_put (cs := #[.slice Ao29 t273.length co29, .slice none 0 0, .slice none 0 0]) ?_ 1 _ rfl; (with_reducible repeat (first | refine blk_drewN ?_ _ | refine blk_drew ?_ | refine blk_alloc ?_ _)); refine blk_put (cs := #[.slice none 0 0, .slice none 0 0, .slice none 0 0]) ?_ 0 _ rfl; (with_reducible repeat (first | refine blk_drewN ?_ _ | refine blk_drew ?_ | refine blk_alloc ?_ _)); exact BK284.out) k_ hk_.2.1)⟩)) (below_size (W2 HB.out GE260.out GE284.out))); have n10_ := Aside0.mk (Kd.R_lower (Kd.R_new' (Kd.R_new' (Kd.R_new' ho1 (Kd.R_lt (by (with_reducible repeat (first | apply Kd.R_alloc | apply Kd.R_drewN | apply Kd.R_drew)); exact (Kd.R_mono (Kd.R_far (p := ⟨gb284, 2, none⟩) (Kd.R_far (p := ⟨gb284, 1, none⟩) (Kd.R_far (p := ⟨gb284, 0, none⟩) (Rt HO254.out BK284.out) (fun _ hk => hk.2) (.slice Ao29 t273.length co29)) (fun _ hk => hk.2) (.slice Ao32 t276.length co32)) (fun _ hk => hk.2) (.slice Ao33 t279.length co33)) (fun _ h_ => h_.1))))) (Kd.R_lt (by (with_reducible repeat (first | apply Kd.R_alloc | apply Kd.R_drewN | apply Kd.R_drew)); exact (Kd.R_mono (Kd.R_far (p := ⟨gb284, 2, none⟩) (Kd.R_far (p := ⟨gb284, 1, none⟩) (Kd.R_far (p := ⟨gb284, 0, none⟩) (Rt HO267.out BK284.out) (fun _ hk => hk.2) (.slice Ao29 t273.length co29)) (fun _ hk => hk.2) (.slice Ao32 t276.length co32)) (fun _ hk => hk.2) (.slice Ao33 t279.length co33)) (fun _ h_ => h_.1))))) (Kd.R_lt (by (with_reducible repeat (first | apply Kd.R_alloc | apply Kd.R_drewN | apply Kd.R_drew)); exact (Kd.R_mono (Kd.R_far (p := ⟨gb284, 2, none⟩) (Kd.R_far (p := ⟨gb284, 1, none⟩) (Kd.R_far (p := ⟨gb284, 0, none⟩) (Rt HO278.out BK284.out) (fun _ hk => hk.2) (.slice Ao29 t273.length co29)) (fun _ hk => hk.2) (.slice Ao32 t276.length co32)) (fun _ hk => hk.2) (.slice Ao33 t279.length co33)) (fun _ h_ => h_.1))))) (below_size (W2 HB.out GE260.out GE284.out))); have n11_ := Aside0.mk (Kd.R_lower (Kd.R_new' (Kd.R_new' (Kd.R_new' ho2 (Kd.R_lt (by (with_reducible repeat (first | apply Kd.R_alloc | apply Kd.R_drewN | apply Kd.R_drew)); exact (Kd.R_mono (Kd.R_far (p := ⟨gb284, 2, none⟩) (Kd.R_far (p := ⟨gb284, 1, none⟩) (Kd.R_far (p := ⟨gb284, 0, none⟩) (Rt HO257.out BK284.out) (fun _ hk => hk.2) (.slice Ao29 t273.length co29)) (fun _ hk => hk.2) (.slice Ao32 t276.length co32)) (fun _ hk => hk.2) (.slice Ao33 t279.length co33)) (fun _ h_ => h_.1))))) (Kd.R_lt (by (with_reducible repeat (first | apply Kd.R_alloc | apply Kd.R_drewN | apply Kd.R_drew)); exact (Kd.R_mono (Kd.R_far (p := ⟨gb284, 2, none⟩) (Kd.R_far (p := ⟨gb284, 1, none⟩) (Kd.R_far (p := ⟨gb284, 0, none⟩) (Rt HO270.out BK284.out) (fun _ hk => hk.2) (.slice Ao29 t273.length co29)) (fun _ hk => hk.2) (.slice Ao32 t276.length co32)) (fun _ hk => hk.2) (.slice Ao33 t279.length co33)) (fun _ h_ => h_.1))))) (Kd.R_lt (by (with_reducible repeat (first | apply Kd.R_alloc | apply Kd.R_drewN | apply Kd.R_drew)); exact (Kd.R_mono (Kd.R_far (p := ⟨gb284, 2, none⟩) (Kd.R_far (p := ⟨gb284, 1, none⟩) (Kd.R_far (p := ⟨gb284, 0, none⟩) (Rt HO281.out BK284.out) (fun _ hk => hk.2) (.slice Ao29 t273.length co29)) (fun _ hk => hk.2) (.slice Ao32 t276.length co32)) (fun _ hk => hk.2) (.slice Ao33 t279.length co33)) (fun _ h_ => h_.1))))) (below_size (W2 HB.out GE260.out GE284.out))); have n12_ := Aside0.mk (blk_below (g := gb260) (o := .cells #[.slice Ao18 t249.length co18, .slice Ao20 t252.length co20, .slice Ao21 t255.length co21] 26 (0, 0)) (by (with_reducible repeat (first | refine blk_drewN ?_ _ | refine blk_drew ?_ | refine blk_alloc ?_ _)); refine blk_far ?_ NB260_284.out _; (with_reducible repeat (first | refine blk_drewN ?_ _ | refine blk_drew ?_ | refine blk_alloc ?_ _)); refine blk_far ?_ NB260_284.out _; (with_reducible repeat (first | refine blk_drewN ?_ _ | refine blk_drew ?_ | refine blk_alloc ?_ _)); refine blk_far ?_ NB260_284.out _; (with_reducible repeat (first | refine blk_drewN ?_ _ | refine blk_drew ?_ | refine blk_alloc ?_ _)); exact BK260.out) hb); have n13_ := Aside0.mk (blk_below (g := gb284) (o := .cells #[.slice Ao29 t273.length co29, .slice Ao32 t276.length co32, .slice Ao33 t279.length co33] 26 (0, 0)) (by (with_reducible repeat (first | refine blk_drewN ?_ _ | refine blk_drew ?_ | refine blk_alloc ?_ _)); refine blk_put (cs := #[.slice Ao29 t273.length co29, .slice Ao32 t276.length co32, .slice none 0 0]) ?_ 2 _ rfl; (with_reducible repeat (first | refine blk_drewN ?_ _ | refine blk_drew ?_ | refine blk_alloc ?_ _)); refine blk_put (cs := #[.slice Ao29 t273.length co29, .slice none 0 0, .slice none 0 0]) ?_ 1 _ rfl; (with_reducible repeat (first | refine blk_drewN ?_ _ | refine blk_drew ?_ | refine blk_alloc ?_ _)); refine blk_put (cs := #[.slice none 0 0, .slice none 0 0, .slice none 0 0]) ?_ 0 _ rfl; (with_reducible repeat (first | refine blk_drewN ?_ _ | refine blk_drew ?_ | refine blk_alloc ?_ _)); exact BK284.out) hb); have n14_ := Aside0.mk (below_step (W2 HB.out GE260.out GE284.out) hb); clear HO251; clear HO254; clear HO257; clear HO264; clear HO267; clear HO270; clear HO275; clear HO278; clear HO281; clear BK260; clear BK284; clear HB; have HO251 := n0_; have HO254 := n1_; have HO257 := n2_; have HO264 := n3_; have HO267 := n4_; have HO270 := n5_; have HO275 := n6_; have HO278 := n7_; have HO281 := n8_; have HO287 := n9_; have HO290 := n10_; have HO293 := n11_; have BK260 := n12_; have BK284 := n13_; have HB := n14_; clear n0_ n1_ n2_ n3_ n4_ n5_ n6_ n7_ n8_ n9_ n10_ n11_ n12_ n13_ n14_; (try clear hb); (try clear hb2); (try clear hk); (try clear hi); (try clear ho0); (try clear ho1); (try clear ho2); obtain ⟨Ao36, co36, eo36⟩ := Kd.N_slice HO287.out; subst eo36; obtain ⟨Ao37, co37, eo37⟩ := Kd.R_slice HO290.out; subst eo37; obtain ⟨Ao38, co38, eo38⟩ := Kd.R_slice HO293.out; subst eo38) | ((with_reducible refine gate_callee (f := 11) rfl ?_); refine goesL_ (some 52) rfl rfl Tryd.func11 (by kernel_rfl) rfl #[.agg #[.slice Ao36 t285.length co36, .slice Ao37 t288.length co37, .slice Ao38 t291.length co38]] rfl (by (try simp only [List.map_toArray, List.map_cons, List.map_nil]); first | done | rfl | (simp only [List.length_drop, List.length_take]; rfl) | (simp; done)) ?_; (with_reducible refine (request_Formed.calls k _ _ t285 _ _ t288 _ _ t291 true _ ?side1 ?side2 ?side3 ?side4 ?side5 ?side6 ?side7 A8.out).mono ?_); (case side1 => repeat (first | exact (Kd.N_reads' HO287.out).2.2 | (with_reducible refine Kd.C_alloc ?_ _) | (with_reducible refine Kd.C_drewN ?_ _) | (with_reducible refine Kd.C_drew ?_))); (case side2 => exact (Kd.N_reads' HO287.out).2.1); (case side3 => repeat (first | exact (Kd.R_reads' HO290.out).2.2 | (with_reducible refine Kd.C_alloc ?_ _) | (with_reducible refine Kd.C_drewN ?_ _) | (with_reducible refine Kd.C_drew ?_))); (case side4 => exact (Kd.R_reads' HO290.out).2.1); (case side5 => repeat (first | exact (Kd.R_reads' HO293.out).2.2 | (with_reducible refine Kd.C_alloc ?_ _) | (with_reducible refine Kd.C_drewN ?_ _) | (with_reducible refine Kd.C_drew ?_))); (case side6 => exact (Kd.R_reads' HO293.out).2.1); (case side7 => exact GG.below HG.out (W2 HB.out GE260.out GE284.out)); rintro e w39 ⟨rfl, hb⟩; refine ⟨_, rfl, ?_⟩; have n0_ := Aside0.mk (Kd.N_below (Nq HO251.out) hb); have n1_ := Aside0.mk (Kd.R_below (Rq HO254.out) hb); have n2_ := Aside0.mk (Kd.R_below (Rq HO257.out) hb); have n3_ := Aside0.mk (Kd.N_below (Nq HO264.out) hb); have n4_ := Aside0.mk (Kd.R_below (Rq HO267.out) hb); have n5_ := Aside0.mk (Kd.R_below (Rq HO270.out) hb); have n6_ := Aside0.mk (Kd.N_below (Nq HO275.out) hb); have n7_ := Aside0.mk (Kd.R_below (Rq HO278.out) hb); have n8_ := Aside0.mk (Kd.R_below (Rq HO281.out) hb); have n9_ := Aside0.mk (Kd.N_below (Nq HO287.out) hb); have n10_ := Aside0.mk (Kd.R_below (Rq HO290.out) hb); have n11_ := Aside0.mk (Kd.R_below (Rq HO293.out) hb); have n12_ := Aside0.mk (blk_below (g := gb260) (Bq BK260.out) hb); have n13_ := Aside0.mk (blk_below (g := gb284) (Bq BK284.out) hb); have n14_ := Aside0.mk (below_step (W2 HB.out GE260.out GE284.out) hb); clear HO251; clear HO254; clear HO257; clear HO264; clear HO267; clear HO270; clear HO275; clear HO278; clear HO281; clear HO287; clear HO290; clear HO293; clear BK260; clear BK284; clear HB; have HO251 := n0_; have HO254 := n1_; have HO257 := n2_; have HO264 := n3_; have HO267 := n4_; have HO270 := n5_; have HO275 := n6_; have HO278 := n7_; have HO281 := n8_; have HO287 := n9_; have HO290 := n10_; have HO293 := n11_; have BK260 := n12_; have BK284 := n13_; have HB := n14_; clear n0_ n1_ n2_ n3_ n4_ n5_ n6_ n7_ n8_ n9_ n10_ n11_ n12_ n13_ n14_; (try clear hb); (try clear hb2); (try clear hk); (try clear hi); have hcz40_0 : w39.cell? ⟨gb284, 0, none⟩ = some (.slice Ao29 t273.length co29) := (blk_cell BK284.out 0).trans rfl; have hcz40_1 : w39.cell? ⟨gb284, 1, none⟩ = some (.slice Ao32 t276.length co32) := (blk_cell BK284.out 1).trans rfl; have hcz40_2 : w39.cell? ⟨gb284, 2, none⟩ = some (.slice Ao33 t279.length co33) := (blk_cell BK284.out 2).trans rfl; have hfz40_0 := blk_frozen BK284.out 0; have hfz40_1 := blk_frozen BK284.out 1; have hfz40_2 := blk_frozen BK284.out 2; have hcz41_0 : w39.cell? ⟨gb260, 0, none⟩ = some (.slice Ao18 t249.length co18) := (blk_cell BK260.out 0).trans rfl; have hcz41_1 : w39.cell? ⟨gb260, 1, none⟩ = some (.slice Ao20 t252.length co20) := (blk_cell BK260.out 1).trans rfl; have hcz41_2 : w39.cell? ⟨gb260, 2, none⟩ = some (.slice Ao21 t255.length co21) := (blk_cell BK260.out 2).trans rfl; have hfz41_0 := blk_frozen BK260.out 0; have hfz41_1 := blk_frozen BK260.out 1; have hfz41_2 := blk_frozen BK260.out 2) | (go_at_call 16; (with_reducible refine (depotref00_SameRequest.calls k _ _ t273 _ _ t276 _ _ t279 _ _ t249 _ _ t252 _ _ t255 true _ ?side1 ?side2 ?side3 ?side4 ?side5 ?side6 ?side7 ?side8 ?side9 ?side10 ?side11 ?side12 A13.out).mono ?_); (case side1 => repeat (first | exact (Kd.N_reads' HO275.out).2.2 | (with_reducible refine Kd.C_alloc ?_ _) | (with_reducible refine Kd.C_drewN ?_ _) | (with_reducible refine Kd.C_drew ?_))); (case side2 => exact (Kd.N_reads' HO275.out).2.1); (case side3 => repeat (first | exact (Kd.R_reads' HO278.out).2.2 | (with_reducible refine Kd.C_alloc ?_ _) | (with_reducible refine Kd.C_drewN ?_ _) | (with_reducible refine Kd.C_drew ?_))); (case side4 => exact (Kd.R_reads' HO278.out).2.1); (case side5 => repeat (first | exact (Kd.R_reads' HO281.out).2.2 | (with_reducible refine Kd.C_alloc ?_ _) | (with_reducible refine Kd.C_drewN ?_ _) | (with_reducible refine Kd.C_drew ?_))); (case side6 => exact (Kd.R_reads' HO281.out).2.1); (case side7 => repeat (first | exact (Kd.N_reads' HO251.out).2.2 | (with_reducible refine Kd.C_alloc ?_ _) | (with_reducible refine Kd.C_drewN ?_ _) | (with_reducible refine Kd.C_drew ?_))); (case side8 => exact (Kd.N_reads' HO251.out).2.1); (case side9 => repeat (first | exact (Kd.R_reads' HO254.out).2.2 | (with_reducible refine Kd.C_alloc ?_ _) | (with_reducible refine Kd.C_drewN ?_ _) | (with_reducible refine Kd.C_drew ?_))); (case side10 => exact (Kd.R_reads' HO254.out).2.1); (case side11 => repeat (first | exact (Kd.R_reads' HO257.out).2.2 | (with_reducible refine Kd.C_alloc ?_ _) | (with_reducible refine Kd.C_drewN ?_ _) | (with_reducible refine Kd.C_drew ?_))); (case side12 => exact (Kd.R_reads' HO257.out).2.1); rintro e w42 ⟨rfl, hb⟩; have n0_ := Aside0.mk (Kd.N_below (Nq HO251.out) hb); have n1_ := Aside0.mk (Kd.R_below (Rq HO254.out) hb); have n2_ := Aside0.mk (Kd.R_below (Rq HO257.out) hb); have n3_ := Aside0.mk (Kd.N_below (Nq HO264.out) hb); have n4_ := Aside0.mk (Kd.R_below (Rq HO267.out) hb); have n5_ := Aside0.mk (Kd.R_below (Rq HO270.out) hb); have n6_ := Aside0.mk (Kd.N_below (Nq HO275.out) hb); have n7_ := Aside0.mk (Kd.R_below (Rq HO278.out) hb); have n8_ := Aside0.mk (Kd.R_below (Rq HO281.out) hb); have n9_ := Aside0.mk (Kd.N_below (Nq HO287.out) hb); have n10_ := Aside0.mk (Kd.R_below (Rq HO290.out) hb); have n11_ := Aside0.mk (Kd.R_below (Rq HO293.out) hb); have n12_ := Aside0.mk (blk_below (g := gb260) (Bq BK260.out) hb); have n13_ := Aside0.mk (blk_below (g := gb284) (Bq BK284.out) hb); have n14_ := Aside0.mk (below_step (W2 HB.out GE260.out GE284.out) hb); clear HO251; clear HO254; clear HO257; clear HO264; clear HO267; clear HO270; clear HO275; clear HO278; clear HO281; clear HO287; clear HO290; clear HO293; clear BK260; clear BK284; clear HB; have HO251 := n0_; have HO254 := n1_; have HO257 := n2_; have HO264 := n3_; have HO267 := n4_; have HO270 := n5_; have HO275 := n6_; have HO278 := n7_; have HO281 := n8_; have HO287 := n9_; have HO290 := n10_; have HO293 := n11_; have BK260 := n12_; have BK284 := n13_; have HB := n14_; clear n0_ n1_ n2_ n3_ n4_ n5_ n6_ n7_ n8_ n9_ n10_ n11_ n12_ n13_ n14_; (try clear hb); (try clear hb2); (try clear hk); (try clear hi)) | (go_at_call 21; (with_reducible refine (depotlaw24_awake.calls k  t296 _ ?side1 A15.out).mono ?_); (case side1 => exact GG.below HG.out (W2 HB.out GE260.out GE284.out)); rintro e w43 ⟨rfl, hb⟩; have n0_ := Aside0.mk (Kd.N_below (Nq HO251.out) hb); have n1_ := Aside0.mk (Kd.R_below (Rq HO254.out) hb); have n2_ := Aside0.mk (Kd.R_below (Rq HO257.out) hb); have n3_ := Aside0.mk (Kd.N_below (Nq HO264.out) hb); have n4_ := Aside0.mk (Kd.R_below (Rq HO267.out) hb); have n5_ := Aside0.mk (Kd.R_below (Rq HO270.out) hb); have n6_ := Aside0.mk (Kd.N_below (Nq HO275.out) hb); have n7_ := Aside0.mk (Kd.R_below (Rq HO278.out) hb); have n8_ := Aside0.mk (Kd.R_below (Rq HO281.out) hb); have n9_ := Aside0.mk (Kd.N_below (Nq HO287.out) hb); have n10_ := Aside0.mk (Kd.R_below (Rq HO290.out) hb); have n11_ := Aside0.mk (Kd.R_below (Rq HO293.out) hb); have n12_ := Aside0.mk (blk_below (g := gb260) (Bq BK260.out) hb); have n13_ := Aside0.mk (blk_below (g := gb284) (Bq BK284.out) hb); have n14_ := Aside0.mk (below_step (W2 HB.out GE260.out GE284.out) hb); clear HO251; clear HO254; clear HO257; clear HO264; clear HO267; clear HO270; clear HO275; clear HO278; clear HO281; clear HO287; clear HO290; clear HO293; clear BK260; clear BK284; clear HB; have HO251 := n0_; have HO254 := n1_; have HO257 := n2_; have HO264 := n3_; have HO267 := n4_; have HO270 := n5_; have HO275 := n6_; have HO278 := n7_; have HO281 := n8_; have HO287 := n9_; have HO290 := n10_; have HO293 := n11_; have BK260 := n12_; have BK284 := n13_; have HB := n14_; clear n0_ n1_ n2_ n3_ n4_ n5_ n6_ n7_ n8_ n9_ n10_ n11_ n12_ n13_ n14_; (try clear hb); (try clear hb2); (try clear hk); (try clear hi)))
       go_ret
       exact ⟨by first | rfl | (simp [errW_none, errW_some] <;> rfl) | (simp [*, errW_none, errW_some] <;> rfl) | (simp [errW_none, errW_some, Go.Proofs.YtmocooihkobdjaaDoor.listNe]; done), by repeat (first | (with_reducible first | exact HB.out | apply below_alloc | apply pw_below_drewN | apply below_drew1 | refine below_set ?_ GE260.out | refine below_set ?_ GE284.out) | exact HB.out)⟩
      ·replace c14 := Bool.eq_false_iff.mpr c14
       subst c14
       have H1 : (some false) = some r := by rw [if_neg (show ¬ (false = true) by decide)] at H; exact H
       clear H
       have H := H1
       clear H1
       exact absurd (Option.some.inj H) (by rw [hr]; decide)
     ·rw [if_neg c12] at H
      have c12b0 : (t283 == 0) = false := beq_eq_false_iff_ne.mpr c12
      have c12b1 : (t283 != 0) = true := bne_iff_ne.mpr c12
      exact absurd (Option.some.inj H) (by rw [hr]; decide)
    ·rw [if_neg c11] at H
     have c11b0 : (t282 == 0) = false := beq_eq_false_iff_ne.mpr c11
     have c11b1 : (t282 != 0) = true := bne_iff_ne.mpr c11
     exact absurd (Option.some.inj H) (by rw [hr]; decide)
   ·rw [if_neg c10] at H
    have c10b0 : (t272 == 0) = false := beq_eq_false_iff_ne.mpr c10
    have c10b1 : (t272 != 0) = true := bne_iff_ne.mpr c10
    exact absurd (Option.some.inj H) (by rw [hr]; decide)
  ·replace c9 := Bool.eq_false_iff.mpr c9
   subst c9
   have H1 : (some false) = some r := by rw [if_neg (show ¬ (false = true) by decide)] at H; exact H
   clear H
   have H := H1
   clear H1
   exact absurd (Option.some.inj H) (by rw [hr]; decide)
 ·rw [if_neg c3] at H
  have c3b0 : (t258 == 0) = false := beq_eq_false_iff_ne.mpr c3
  have c3b1 : (t258 != 0) = true := bne_iff_ne.mpr c3
  by_cases c167 : (t249.length : Int) = 0
  ·rw [if_pos c167] at H
   have c167b0 : ((t249.length : Int) == 0) = true := beq_iff_eq.mpr c167
   have c167b1 : ((t249.length : Int) != 0) = false := bne_eq_false_iff_eq.mpr c167
   clear c167
   by_cases c168 : (t252.length : Int) = 0
   ·rw [if_pos c168] at H
    have c168b0 : ((t252.length : Int) == 0) = true := beq_iff_eq.mpr c168
    have c168b1 : ((t252.length : Int) != 0) = false := bne_eq_false_iff_eq.mpr c168
    clear c168
    by_cases c169 : (t255.length : Int) = 0
    ·rw [if_pos c169] at H
     have c169b0 : ((t255.length : Int) == 0) = true := beq_iff_eq.mpr c169
     have c169b1 : ((t255.length : Int) != 0) = false := bne_eq_false_iff_eq.mpr c169
     clear c169
     replace H := Option.bind_eq_some_iff.mp H
     obtain ⟨t261, A1700, H⟩ := H
     replace H : (some t261) = some r := H
     have A170 := Aside0.mk A1700
     clear A1700
     obtain rfl := Option.some.inj H
     go_enter Tryd.func9, Tryd.ntmps9
     go_wp2_with (first | ((with_reducible refine gate_callee (f := 19) rfl ?_); refine goesL_ (some 13) rfl rfl Tryd.func19 (by kernel_rfl) rfl #[.string a0] rfl (by (try simp only [List.map_toArray, List.map_cons, List.map_nil]); first | done | rfl | (simp only [List.length_drop, List.length_take]; rfl) | (simp; done)) ?_; (with_reducible refine (request_Read.calls k a0 t249 t252 t255 t258 t259 _ ?side1 A2.out).mono ?_); (case side1 => exact GG.below HG.out (W0 HB.out)); rintro e w171 ⟨v250, v253, v256, rfl, ho0, ho1, ho2, hb⟩; refine ⟨_, rfl, ?_⟩; have n0_ := Aside0.mk (Kd.N_lower (Kd.N_mono (ok' := fun k_ => some k_ ≠ (v253 : Value).ownBlock ∧ some k_ ≠ (v256 : Value).ownBlock) ho0 (fun k_ hk_ => ⟨hk_.2.1, hk_.2.2⟩)) (below_size (W0 HB.out))); have n1_ := Aside0.mk (Kd.R_lower (Kd.R_mono (ok' := fun k_ => True) ho1 (fun _ hk_ => trivial)) (below_size (W0 HB.out))); have n2_ := Aside0.mk (Kd.R_lower (Kd.R_mono (ok' := fun k_ => True) ho2 (fun _ hk_ => trivial)) (below_size (W0 HB.out))); have n3_ := Aside0.mk (below_step (W0 HB.out) hb); clear HB; have HO251 := n0_; have HO254 := n1_; have HO257 := n2_; have HB := n3_; clear n0_ n1_ n2_ n3_; (try clear hb); (try clear hb2); (try clear hk); (try clear hi); (try clear ho0); (try clear ho1); (try clear ho2)) | ((with_reducible refine gate_dst (N := 3) rfl ?_); (try (refine gate_guard (by rfl) ?_; dsimp only)); refine box_event ?hg (N := 3) ?hd (cs := #[.slice none 0 0, .slice none 0 0, .slice none 0 0]) (t := 26) ?hr ?_; (case hd => rfl); (case hg => rfl); (case hr => first | (go_simp; done) | (go_simp; rfl)); intro gb260 hg w172 hbox hb; have n0_ := Aside0.mk (Kd.N_below (Kd.N_elderB (Nq HO251.out) gb260 (Nat.le_of_eq hg.symm)) hb); have n1_ := Aside0.mk (Kd.R_below (Rq HO254.out) hb); have n2_ := Aside0.mk (Kd.R_below (Rq HO257.out) hb); have n3_ := Aside0.mk (below_step (W0 HB.out) hb); have n4_ := Aside0.mk (hbox); have n5_ := Aside0.mk ((by rw [hg]; exact (below_size (W0 HB.out)) : w.heap.size ≤ gb260)); have n6_ := Aside0.mk ((by rw [hg]; exact (below_size (W0 HB.out)) : w.heap.size ≤ gb260)); clear HO251; clear HO254; clear HO257; clear HB; have HO251 := n0_; have HO254 := n1_; have HO257 := n2_; have HB := n3_; have BK260 := n4_; have GW260 := n5_; have GE260 := n6_; clear n0_ n1_ n2_ n3_ n4_ n5_ n6_; clear hb hbox hg; obtain ⟨Ao173, co173, eo173⟩ := Kd.N_slice HO251.out; subst eo173; have hcz174_0 : w172.cell? ⟨gb260, 0, none⟩ = some (.slice none 0 0) := (blk_cell BK260.out 0).trans rfl; have hcz174_1 : w172.cell? ⟨gb260, 1, none⟩ = some (.slice none 0 0) := (blk_cell BK260.out 1).trans rfl; have hcz174_2 : w172.cell? ⟨gb260, 2, none⟩ = some (.slice none 0 0) := (blk_cell BK260.out 2).trans rfl; have hfz174_0 := blk_frozen BK260.out 0; have hfz174_1 := blk_frozen BK260.out 1; have hfz174_2 := blk_frozen BK260.out 2; obtain ⟨Ao175, co175, eo175⟩ := Kd.R_slice HO254.out; subst eo175; obtain ⟨Ao176, co176, eo176⟩ := Kd.R_slice HO257.out; subst eo176) | (go_at_call 21; (with_reducible refine (depotlaw24_awake.calls k  t261 _ ?side1 A170.out).mono ?_); (case side1 => exact GG.below HG.out (W1 HB.out GE260.out)); rintro e w177 ⟨rfl, hb⟩; have n0_ := Aside0.mk (Kd.N_below (by (with_reducible repeat (first | apply Kd.N_alloc | apply Kd.N_drewN | apply Kd.N_drew)); exact (Kd.N_mono (Kd.N_far (p := ⟨gb260, 2, none⟩) (Kd.N_far (p := ⟨gb260, 1, none⟩) (Kd.N_far (p := ⟨gb260, 0, none⟩) (Kd.N_mono HO251.out (fun k_ hk => (⟨hk, hk.2⟩ : _ ∧ k_ ≠ gb260))) (fun _ hk => hk.2) (.slice Ao173 t249.length co173)) (fun _ hk => hk.2) (.slice Ao175 t252.length co175)) (fun _ hk => hk.2) (.slice Ao176 t255.length co176)) (fun _ h_ => h_.1))) hb); have n1_ := Aside0.mk (Kd.R_below (by (with_reducible repeat (first | apply Kd.R_alloc | apply Kd.R_drewN | apply Kd.R_drew)); exact (Kd.R_mono (Kd.R_far (p := ⟨gb260, 2, none⟩) (Kd.R_far (p := ⟨gb260, 1, none⟩) (Kd.R_far (p := ⟨gb260, 0, none⟩) (Rt HO254.out BK260.out) (fun _ hk => hk.2) (.slice Ao173 t249.length co173)) (fun _ hk => hk.2) (.slice Ao175 t252.length co175)) (fun _ hk => hk.2) (.slice Ao176 t255.length co176)) (fun _ h_ => h_.1))) hb); have n2_ := Aside0.mk (Kd.R_below (by (with_reducible repeat (first | apply Kd.R_alloc | apply Kd.R_drewN | apply Kd.R_drew)); exact (Kd.R_mono (Kd.R_far (p := ⟨gb260, 2, none⟩) (Kd.R_far (p := ⟨gb260, 1, none⟩) (Kd.R_far (p := ⟨gb260, 0, none⟩) (Rt HO257.out BK260.out) (fun _ hk => hk.2) (.slice Ao173 t249.length co173)) (fun _ hk => hk.2) (.slice Ao175 t252.length co175)) (fun _ hk => hk.2) (.slice Ao176 t255.length co176)) (fun _ h_ => h_.1))) hb); have n3_ := Aside0.mk (blk_below (g := gb260) (o := .cells #[.slice Ao173 t249.length co173, .slice Ao175 t252.length co175, .slice Ao176 t255.length co176] 26 (0, 0)) (by (with_reducible repeat (first | refine blk_drewN ?_ _ | refine blk_drew ?_ | refine blk_alloc ?_ _)); refine blk_put (cs := #[.slice Ao173 t249.length co173, .slice Ao175 t252.length co175, .slice none 0 0]) ?_ 2 _ rfl; (with_reducible repeat (first | refine blk_drewN ?_ _ | refine blk_drew ?_ | refine blk_alloc ?_ _)); refine blk_put (cs := #[.slice Ao173 t249.length co173, .slice none 0 0, .slice none 0 0]) ?_ 1 _ rfl; (with_reducible repeat (first | refine blk_drewN ?_ _ | refine blk_drew ?_ | refine blk_alloc ?_ _)); refine blk_put (cs := #[.slice none 0 0, .slice none 0 0, .slice none 0 0]) ?_ 0 _ rfl; (with_reducible repeat (first | refine blk_drewN ?_ _ | refine blk_drew ?_ | refine blk_alloc ?_ _)); exact BK260.out) hb); have n4_ := Aside0.mk (below_step (W1 HB.out GE260.out) hb); clear HO251; clear HO254; clear HO257; clear BK260; clear HB; have HO251 := n0_; have HO254 := n1_; have HO257 := n2_; have BK260 := n3_; have HB := n4_; clear n0_ n1_ n2_ n3_ n4_; (try clear hb); (try clear hb2); (try clear hk); (try clear hi)))
     go_ret
     exact ⟨by first | rfl | (simp [errW_none, errW_some] <;> rfl) | (simp [*, errW_none, errW_some] <;> rfl) | (simp [errW_none, errW_some, Go.Proofs.YtmocooihkobdjaaDoor.listNe]; done), by repeat (first | (with_reducible first | exact HB.out | apply below_alloc | apply pw_below_drewN | apply below_drew1 | refine below_set ?_ GE260.out) | exact HB.out)⟩
    ·rw [if_neg c169] at H
     have c169b0 : ((t255.length : Int) == 0) = false := beq_eq_false_iff_ne.mpr c169
     have c169b1 : ((t255.length : Int) != 0) = true := bne_iff_ne.mpr c169
     have c169b2 : ¬ (t255 = []) := fun h_ => c169 (by rw [h_]; rfl)
     exact absurd (Option.some.inj H) (by rw [hr]; decide)
   ·rw [if_neg c168] at H
    have c168b0 : ((t252.length : Int) == 0) = false := beq_eq_false_iff_ne.mpr c168
    have c168b1 : ((t252.length : Int) != 0) = true := bne_iff_ne.mpr c168
    have c168b2 : ¬ (t252 = []) := fun h_ => c168 (by rw [h_]; rfl)
    exact absurd (Option.some.inj H) (by rw [hr]; decide)
  ·rw [if_neg c167] at H
   have c167b0 : ((t249.length : Int) == 0) = false := beq_eq_false_iff_ne.mpr c167
   have c167b1 : ((t249.length : Int) != 0) = true := bne_iff_ne.mpr c167
   have c167b2 : ¬ (t249 = []) := fun h_ => c167 (by rw [h_]; rfl)
   exact absurd (Option.some.inj H) (by rw [hr]; decide)
end Go.Proofs.YtmocooihkobdjaaDoor.G
end
section
namespace Go.Proofs.YtmocooihkobdjaaDoor.G
open Go.RowKit Go.Proofs.YtmocooihkobdjaaDoorW.PrintWords Go.Proofs.YtmocooihkobdjaaDoorW.PrintLast Go.Proofs.YtmocooihkobdjaaDoorW.PrintMore
attribute [local go_sem] max2_int min2_int max_two min_two max_three min_three max_four min_four
set_option linter.unusedVariables false
set_option linter.unusedSimpArgs false
end Go.Proofs.YtmocooihkobdjaaDoor.G
end
section
set_option linter.unusedVariables false
set_option linter.unusedSimpArgs false
namespace Go.Proofs.YtmocooihkobdjaaDoor.Ver
open Go.RowKit Go.Proofs.YtmocooihkobdjaaDoor.G Go.Proofs.YtmocooihkobdjaaDoorW.PrintWords Go.Proofs.YtmocooihkobdjaaDoorW.PrintLast
theorem wrap_id {x : Int} (h0 : -9223372036854775808 ≤ x) (h1 : x ≤ 9223372036854775807) : wrap64 x = x := by
  unfold wrap64
  omega
def lastN (s : ByteArray) (c : Int) : Nat → Int
  | 0 => -1
  | n + 1 => if bt s n = c then n else lastN s c n
theorem lastN_bd (s : ByteArray) (c : Int) : ∀ n, -1 ≤ lastN s c n ∧ lastN s c n + 1 ≤ n := by
  intro n
  induction n with
  | zero => exact ⟨by simp [lastN], by simp [lastN]⟩
  | succ n ih =>
    unfold lastN
    split <;> omega
theorem lastB_ev (s : ByteArray) (c : Int) (hs : s.size ≤ 140737488351232) : ∀ n : Nat, n ≤ s.size → Ev (fun k => bytealg_LastIndexByteString.l0 k s c (wrap64 ((n : Int) - 1))) (lastN s c n) := by
  intro n
  induction n with
  | zero =>
    intro _
    refine Ev.step (f := fun _ => some (-1)) (fun k => ?_) (Ev.now _)
    have e : wrap64 (((0 : Nat) : Int) - 1) = -1 := wrap_id (by omega) (by omega)
    simp only [bytealg_LastIndexByteString.l0]
    rw [e, if_neg (by omega)]
  | succ n ih =>
    intro hn
    have e : wrap64 (((n + 1 : Nat) : Int) - 1) = n := by rw [wrap_id (by omega) (by omega)]; omega
    by_cases hb : bt s n = c
    · refine Ev.step (f := fun _ => some (n : Int)) (fun k => ?_) ?_
      · simp only [bytealg_LastIndexByteString.l0]
        rw [e, if_pos (by omega), if_pos (by omega), if_pos (by omega), if_pos hb]
      · have : lastN s c (n + 1) = n := by unfold lastN; rw [if_pos hb]
        rw [this]; exact Ev.now _
    · refine Ev.step (f := fun k => bytealg_LastIndexByteString.l0 k s c (wrap64 ((n : Int) - 1))) (fun k => ?_) ?_
      · simp only [bytealg_LastIndexByteString.l0]
        rw [e, if_pos (by omega), if_pos (by omega), if_pos (by omega), if_neg hb]
      · have : lastN s c (n + 1) = lastN s c n := by conv => lhs; unfold lastN; rw [if_neg hb]
        rw [this]; exact ih (by omega)
theorem last_ev (s : ByteArray) (c : Int) (hs : s.size ≤ 140737488351232) : Ev (fun k => strings_LastIndexByte.f k s c) (lastN s c s.size) := by
  unfold strings_LastIndexByte.f bytealg_LastIndexByteString.f
  exact Ev.bind (lastB_ev s c hs s.size (Nat.le_refl _)) (Ev.now _)
theorem idx_bd (l : List UInt8) (c : UInt8) : -1 ≤ Lib.indexByte l c ∧ Lib.indexByte l c + 1 ≤ l.length := by
  refine ⟨Lib.indexByte_ge l c, ?_⟩
  induction l with
  | nil => simp [Lib.indexByte]
  | cons b l ih =>
    unfold Lib.indexByte
    split
    · simp only [List.length_cons]; omega
    · split
      · simp only [List.length_cons]; omega
      · simp only [List.length_cons]; omega
theorem bt_eq (s : ByteArray) (i : Nat) (h : i < s.size) : bt s i = ((s[i]'h).toNat : Int) := by
  have := bt_at s (i : Int) (by simpa using h)
  rw [← this]
  simp
theorem drop_cons (s : ByteArray) (i : Nat) (h : i < s.size) : s.data.toList.drop i = s[i]'h :: s.data.toList.drop (i + 1) := by
  have hl : i < s.data.toList.length := by simpa using h
  rw [List.drop_eq_getElem_cons hl]
  rfl
theorem cut_one (s : ByteArray) (c : UInt8) (hs : s.size ≤ 140737488351232) :
    strings_Cut.f s ⟨#[c]⟩ = some (if 0 ≤ Lib.indexByte s.data.toList c then (s.extract 0 (Lib.indexByte s.data.toList c).toNat, s.extract (Lib.indexByte s.data.toList c + 1).toNat s.size, true) else (s, ⟨#[]⟩, false)) := by
  have hb := idx_bd s.data.toList c
  have hl : (s.data.toList.length : Int) = s.size := by simp
  unfold strings_Cut.f stringslite_Cut.f stringslite_Index.f
  have h1 : (⟨#[c]⟩ : ByteArray).size = 1 := rfl
  rw [if_pos h1]
  have h0 : (⟨#[c]⟩ : ByteArray).data.getD 0 0 = c := rfl
  rw [h0]
  simp only [Option.bind_some]
  by_cases h : 0 ≤ Lib.indexByte s.data.toList c
  · have e : wrap64 (Lib.indexByte s.data.toList c + (((⟨#[c]⟩ : ByteArray).size : Nat) : Int)) = Lib.indexByte s.data.toList c + 1 := by
      rw [h1]
      exact wrap_id (by omega) (by omega)
    rw [if_pos (show Lib.indexByte s.data.toList c ≥ 0 from h), if_pos h, if_pos (by omega), e, if_pos (by omega), if_pos (by omega), if_pos h]
    rfl
  · rw [if_neg (show ¬ Lib.indexByte s.data.toList c ≥ 0 from h), if_neg h]
    rfl
def colonI (s : ByteArray) : Int := Lib.indexByte s.data.toList 58
def epochS (s : ByteArray) : ByteArray := epochR s (colonI s)
def behindS (s : ByteArray) : ByteArray := restR s (colonI s)
def minusI (s : ByteArray) : Int := lastN (behindS s) 45 (behindS s).size
def upS (s : ByteArray) : ByteArray := upR (behindS s) (minusI s)
def revS (s : ByteArray) : ByteArray := revR (behindS s) (minusI s)
def colonS (s : ByteArray) : Bool := decide (0 ≤ colonI s)
def minusS (s : ByteArray) : Bool := decide (0 ≤ minusI s)
def okS (s : ByteArray) : Bool := (fin (colonS s) (minusS s) (epochS s) (upS s) (revS s)).2.2.2
theorem behind_le (s : ByteArray) : (behindS s).size ≤ s.size := by
  unfold behindS restR
  split
  · simp
  · exact Nat.le_refl _
theorem colon_bd (s : ByteArray) : colonI s + 1 ≤ s.size := by
  have := (idx_bd s.data.toList 58).2
  have hl : (s.data.toList.length : Int) = s.size := by simp
  unfold colonI
  omega
theorem minus_bd (s : ByteArray) : minusI s + 1 ≤ (behindS s).size := (lastN_bd (behindS s) 45 _).2
theorem parted_ev (s : ByteArray) (hs : s.size ≤ 140737488351232) : Ev (fun k => version_parted.f k s) (epochS s, upS s, revS s, okS s) := by
  have hb := behind_le s
  have hc : strings_Cut.f s ⟨#[58]⟩ = some (if 0 ≤ colonI s then s.extract 0 (colonI s).toNat else s, if 0 ≤ colonI s then s.extract (colonI s + 1).toNat s.size else ⟨#[]⟩, colonS s) := by
    rw [cut_one s 58 hs]
    unfold colonS colonI
    split <;> simp_all
  have hrest : restOf s (if 0 ≤ colonI s then s.extract 0 (colonI s).toNat else s, if 0 ≤ colonI s then s.extract (colonI s + 1).toNat s.size else ⟨#[]⟩, colonS s) = behindS s := by
    unfold restOf behindS restR colonS
    simp only [decide_eq_true_eq]
    split <;> rfl
  have hep : epochOf (if 0 ≤ colonI s then s.extract 0 (colonI s).toNat else s, if 0 ≤ colonI s then s.extract (colonI s + 1).toNat s.size else ⟨#[]⟩, colonS s) = epochS s := by
    unfold epochOf epochS epochR colonS
    simp only [decide_eq_true_eq]
    split <;> rfl
  unfold version_parted.f
  rw [hc]
  simp only [Option.bind_some]
  rw [hrest, hep]
  refine Ev.bind (last_ev (behindS s) 45 (by omega)) ?_
  rw [if_pos (by omega)]
  have hm := minus_bd s
  have e : minusOf (colonS s) (epochS s) (behindS s) (lastN (behindS s) 45 (behindS s).size) = some (epochS s, upS s, revS s, okS s) := by
    change minusOf (colonS s) (epochS s) (behindS s) (minusI s) = _
    unfold minusOf okS upS revS minusS upR revR fin
    by_cases h : 0 ≤ minusI s
    · simp only [if_pos h, if_pos hm, decide_eq_true h]
    · simp only [if_neg h, decide_eq_false h]
      rfl
  rw [e]
  exact Ev.now _
end Go.Proofs.YtmocooihkobdjaaDoor.Ver
end
section
set_option linter.unusedVariables false
set_option linter.unusedSimpArgs false
namespace Go.Proofs.YtmocooihkobdjaaDoor.Model
open Go.RowKit Go.Proofs.YtmocooihkobdjaaDoor.G Go.Proofs.YtmocooihkobdjaaDoorW.PrintWords Go.Proofs.YtmocooihkobdjaaDoorW.PrintLast Go.Proofs.YtmocooihkobdjaaDoor.Ver
abbrev B := List UInt8
theorem byte_all {P : UInt8 → Prop} (h : ∀ n : Fin 256, P (UInt8.ofNat n.val)) (c : UInt8) : P c := by
  have := h ⟨c.toNat, c.toNat_lt⟩
  simpa using this
def gapB (c : UInt8) : Bool := c == 32 || (c == 9 || c == 10)
def sgnB (c : UInt8) : Bool := c == 44 || (c == 124 || (c == 40 || c == 41))
def mrkB (c : UInt8) : Bool := c == 60 || (c == 61 || c == 62)
def wrdB (c : UInt8) : Bool := !gapB c && !sgnB c
def kd (c : UInt8) : Int := if gapB c = true then 1 else if sgnB c = true then 2 else if mrkB c = true then 3 else 0
def dg (l : B) : B := l.dropWhile gapB
def ofL (l : B) : ByteArray := ⟨l.toArray⟩
def at_ (s : ByteArray) (i : Nat) : B := s.data.toList.drop i
theorem toL_ofL (l : B) : (ofL l).data.toList = l := by simp [ofL]
theorem ofL_toL (s : ByteArray) : ofL s.data.toList = s := by
  obtain ⟨⟨x⟩⟩ := s
  rfl
theorem ofL_size (l : B) : (ofL l).size = l.length := by
  show (ofL l).data.size = _
  simp [ofL]
theorem ofL_list (l : B) : (ofL l).toList = l := by
  rw [ByteArray.toList_eq]
  rfl
theorem at_len (s : ByteArray) (i : Nat) : (at_ s i).length = s.size - i := by
  unfold at_
  rw [List.length_drop]
  rfl
theorem at_lt {s : ByteArray} {i : Nat} (h : i < s.size) : at_ s i = s[i]'h :: at_ s (i + 1) := drop_cons s i h
theorem at_end (s : ByteArray) : at_ s s.size = [] := List.eq_nil_of_length_eq_zero (by rw [at_len]; omega)
theorem at_zero (s : ByteArray) : at_ s 0 = s.data.toList := rfl
theorem at_nil {s : ByteArray} {i : Nat} (hi : i ≤ s.size) (h : at_ s i = []) : i = s.size := by
  have := at_len s i
  rw [h] at this
  simp at this
  omega
theorem at_cons {s : ByteArray} {i : Nat} {c : UInt8} {r : B} (hi : i ≤ s.size) (h : at_ s i = c :: r) : i < s.size ∧ bt s (i : Int) = (c.toNat : Int) ∧ at_ s (i + 1) = r := by
  have hl : i < s.size := by
    have := at_len s i
    rw [h] at this
    simp at this
    omega
  rw [at_lt hl] at h
  injection h with h1 h2
  exact ⟨hl, by rw [bt_eq s i hl, h1], h2⟩
theorem ext_at (s : ByteArray) (i e : Nat) : s.extract (i : Int).toNat (e : Int).toNat = ofL ((at_ s i).take (e - i)) := by
  rw [← ofL_toL (s.extract (i : Int).toNat (e : Int).toNat)]
  congr 1
  rw [ByteArray.data_extract, Array.toList_extract]
  simp [at_, List.extract]
theorem take_tw (p : UInt8 → Bool) (l : B) : l.take (l.takeWhile p).length = l.takeWhile p := by
  conv => lhs; rw [← List.takeWhile_append_dropWhile (p := p) (l := l)]
  rw [List.take_left']
  simp
theorem toNat_inj {c d : UInt8} : ((c.toNat : Int) = (d.toNat : Int)) ↔ c = d :=
  ⟨fun h => Lib.byte_eq_of_toNat h, fun h => by rw [h]⟩
def plB (c : UInt8) : Bool := (decide (97 ≤ c) && decide (c ≤ 122)) || (decide (48 ≤ c) && decide (c ≤ 57))
def namB (f : Bool) (c : UInt8) : Bool := plB c || (!f && (c == 43 || (c == 45 || c == 46)))
def nameL : Bool → B → Bool
  | _, [] => true
  | f, c :: l => namB f c && nameL false l
def nameM (l : B) : Bool := nameL true l && decide (1 < l.length)
theorem namB_int (f : Bool) : ∀ c : UInt8, namB f c = decide ((((c.toNat : Int) ≥ 97 ∧ (c.toNat : Int) ≤ 122) ∨ ((c.toNat : Int) ≥ 48 ∧ (c.toNat : Int) ≤ 57)) ∨ (f = false ∧ ((c.toNat : Int) = 43 ∨ (c.toNat : Int) = 45 ∨ (c.toNat : Int) = 46))) := by
  cases f
  · exact byte_all (by decide +kernel)
  · exact byte_all (by decide +kernel)
theorem name_ev (s : ByteArray) (hs : s.size ≤ 140737488351232) : Ev (fun k => relation_Name.f k s) (nameM s.data.toList) := by
  have key : ∀ (d i : Nat), i + d = s.size → Ev (fun k => relation_Name.l0 k s (i : Int)) (nameL (decide (i = 0)) (at_ s i) && decide ((s.size : Int) > 1)) := by
    intro d
    induction d with
    | zero =>
      intro i hi
      obtain rfl : i = s.size := by omega
      rw [at_end]
      refine Ev.step (f := fun _ => some (true && decide ((s.size : Int) > 1))) (fun k => ?_) (Ev.now _)
      simp only [relation_Name.l0]
      rw [if_neg (by omega)]
      rfl
    | succ d ih =>
      intro i hi
      have hl : i < s.size := by omega
      have ew : wrap64 ((i : Int) + 1) = ((i + 1 : Nat) : Int) := by rw [wrap_id (by omega) (by omega)]; omega
      have hp := ih (i + 1) (by omega)
      rw [show decide (i + 1 = 0) = false from decide_eq_false (by omega)] at hp
      have hb := namB_int (decide (i = 0)) (s[i]'hl)
      have ep : ∀ k, relation_Name.l0 (k + 2) s (i : Int) = if namB (decide (i = 0)) (s[i]'hl) = true then relation_Name.l0 k s ((i + 1 : Nat) : Int) else some false := by
        intro k
        simp only [relation_Name.l0, relation_Name.j1, ew, bt_eq s i hl, if_pos (show (i : Int) < s.size by omega), if_pos (show (0 : Int) ≤ i by omega)]
        rw [hb]
        repeat' split
        all_goals first | rfl | (exfalso; simp_all; done) | (exfalso; simp_all; omega)
      rw [at_lt hl, nameL]
      cases hg : namB (decide (i = 0)) (s[i]'hl) with
      | true =>
        rw [Bool.true_and]
        exact Ev.step (f := fun k => relation_Name.l0 (k + 1) s (i : Int)) (fun k => rfl) (Ev.step (f := fun k => relation_Name.l0 k s ((i + 1 : Nat) : Int)) (fun k => by rw [ep, if_pos hg]) hp)
      | false =>
        rw [Bool.false_and, Bool.false_and]
        exact Ev.step (f := fun k => relation_Name.l0 (k + 1) s (i : Int)) (fun k => rfl) (Ev.step (f := fun _ => some false) (fun k => by rw [ep, if_neg (by simp [hg])]) (Ev.now _))
  unfold relation_Name.f
  have h := key s.size 0 (by omega)
  have e : decide ((s.size : Int) > 1) = decide (1 < s.data.toList.length) := by
    have : s.data.toList.length = s.size := by simp
    rw [this]
    exact decide_eq_decide.2 (by omega)
  rw [e] at h
  exact h
theorem plegal_ev (s : ByteArray) (hs : s.size ≤ 140737488351232) : Ev (fun k => version_Legal.f k s) (okS s) := by
  unfold version_Legal.f
  exact Ev.bind (parted_ev s hs) (Ev.now _)
end Go.Proofs.YtmocooihkobdjaaDoor.Model
end
section
set_option linter.unusedVariables false
set_option linter.unusedSimpArgs false
namespace Go.Proofs.YtmocooihkobdjaaDoor.Model
open Go.RowKit Go.Proofs.YtmocooihkobdjaaDoor.G Go.Proofs.YtmocooihkobdjaaDoorW.PrintWords Go.Proofs.YtmocooihkobdjaaDoorW.PrintLast Go.Proofs.YtmocooihkobdjaaDoor.Ver
def kindOf (c : Int) : Int := if c = 32 ∨ c = 9 ∨ c = 10 then 1 else if c = 44 ∨ c = 124 ∨ c = 40 ∨ c = 41 then 2 else if c = 60 ∨ c = 61 ∨ c = 62 then 3 else 0
theorem kindOf_byte : ∀ c : UInt8, kindOf (c.toNat : Int) = kd c := byte_all (by decide +kernel)
theorem kj1_ev (c : Int) (b : Bool) : Ev (fun k => relation_kind.j1 k c b) (if b = true then 2 else if c = 60 ∨ c = 61 ∨ c = 62 then 3 else 0) := by
  refine Ev.step (f := fun _ => some (if b = true then 2 else if c = 60 ∨ c = 61 ∨ c = 62 then 3 else 0)) (fun k => ?_) (Ev.now _)
  simp only [relation_kind.j1]
  repeat' split
  all_goals simp_all
theorem kj0_ev (c : Int) (b : Bool) : Ev (fun k => relation_kind.j0 k c b) (if b = true then 1 else if c = 44 ∨ c = 124 ∨ c = 40 ∨ c = 41 then 2 else if c = 60 ∨ c = 61 ∨ c = 62 then 3 else 0) := by
  refine Ev.step (f := fun k => if b = true then some 1 else relation_kind.j1 k c (decide (c = 44 ∨ c = 124 ∨ c = 40 ∨ c = 41))) (fun k => ?_) ?_
  · simp only [relation_kind.j0]
    by_cases h1 : c = 44
    · subst h1; simp
    by_cases h2 : c = 124
    · subst h2; simp
    by_cases h3 : c = 40
    · subst h3; simp
    · by_cases h4 : c = 41
      · subst h4; simp
      · have h5 : (c == 41) = false := beq_eq_false_iff_ne.2 h4
        simp [h1, h2, h3, h4, h5]
  · cases b with
    | true => simpa using Ev.now _
    | false =>
      have := kj1_ev c (decide (c = 44 ∨ c = 124 ∨ c = 40 ∨ c = 41))
      simpa using this
theorem kind_int (c : Int) : Ev (fun k => relation_kind.f k c) (kindOf c) := by
  have h := kj0_ev c (decide (c = 32 ∨ c = 9 ∨ c = 10))
  have e : (fun k => relation_kind.f k c) = fun k => relation_kind.j0 k c (decide (c = 32 ∨ c = 9 ∨ c = 10)) := by
    funext k
    unfold relation_kind.f
    by_cases h1 : c = 32
    · subst h1; simp
    by_cases h2 : c = 9
    · subst h2; simp
    · by_cases h4 : c = 10
      · subst h4; simp
      · have h5 : (c == 10) = false := beq_eq_false_iff_ne.2 h4
        simp [h1, h2, h4, h5]
  rw [e]
  simpa [kindOf] using h
theorem kind_ev (c : UInt8) : Ev (fun k => relation_kind.f k (c.toNat : Int)) (kd c) := by
  rw [← kindOf_byte]
  exact kind_int _
theorem kd_gap {c : UInt8} : kd c = 1 ↔ gapB c = true := by
  unfold kd
  repeat' split
  all_goals simp_all
theorem kd_stop {c : UInt8} : (kd c = 1 ∨ kd c = 2) ↔ wrdB c = false := by
  unfold kd wrdB
  repeat' split
  all_goals simp_all
theorem kd_mark : ∀ c : UInt8, kd c = 3 ↔ mrkB c = true := byte_all (by decide +kernel)
theorem gaps_ev (s : ByteArray) (hs : s.size ≤ 140737488351232) : ∀ (d i : Nat), i + d = s.size → ∃ e : Nat, i ≤ e ∧ e ≤ s.size ∧ at_ s e = dg (at_ s i) ∧ Ev (fun k => relation_reader_gaps.f k s (i : Int)) (s, (e : Int)) := by
  intro d
  unfold relation_reader_gaps.f
  induction d with
  | zero =>
    intro i hi
    refine ⟨i, Nat.le_refl _, by omega, ?_, ?_⟩
    · obtain rfl : i = s.size := by omega
      rw [at_end]; rfl
    · refine Ev.step (f := fun _ => some (s, (i : Int))) (fun k => ?_) (Ev.now _)
      simp only [relation_reader_gaps.l0]
      rw [if_neg (by omega)]
  | succ d ih =>
    intro i hi
    have hl : i < s.size := by omega
    have ew : wrap64 ((i : Int) + 1) = ((i + 1 : Nat) : Int) := by rw [wrap_id (by omega) (by omega)]; omega
    have hstep : ∀ k, relation_reader_gaps.l0 (k + 1) s (i : Int) = (relation_kind.f k ((s[i]'hl).toNat : Int)).bind fun t => if t = 1 then relation_reader_gaps.l0 k s ((i + 1 : Nat) : Int) else some (s, (i : Int)) := by
      intro k
      simp only [relation_reader_gaps.l0]
      rw [if_pos (by omega), if_pos (by omega), ew, bt_eq s i hl]
    rw [at_lt hl]
    by_cases hk : gapB (s[i]'hl) = true
    · obtain ⟨e, h1, h2, h3, h4⟩ := ih (i + 1) (by omega)
      refine ⟨e, by omega, h2, ?_, ?_⟩
      · rw [h3, dg, dg, List.dropWhile_cons, if_pos hk]
      · refine Ev.step hstep ?_
        refine Ev.bind (kind_ev _) ?_
        simp only [if_pos (kd_gap.2 hk)]
        exact h4
    · refine ⟨i, Nat.le_refl _, by omega, ?_, ?_⟩
      · rw [at_lt hl, dg, List.dropWhile_cons, if_neg hk]
      · refine Ev.step hstep ?_
        refine Ev.bind (kind_ev _) ?_
        simp only [if_neg (fun q => hk (kd_gap.1 q))]
        exact Ev.now _
theorem runstop (s : ByteArray) (st i : Nat) (hs : s.size ≤ 140737488351232) (hi : i < s.size) (hst : st ≤ i) (hk : wrdB (s[i]'hi) = false) :
    Ev (fun k => relation_reader_run.l0 k false (i : Int) s (st : Int)) (s.extract (st : Int).toNat (i : Int).toNat, s, (st : Int)) := by
  refine Ev.step (f := fun k => (relation_kind.f k ((s[i]'hi).toNat : Int)).bind fun t => if t = 1 then some (s.extract (st : Int).toNat (i : Int).toNat, s, (st : Int)) else if t = 2 then some (s.extract (st : Int).toNat (i : Int).toNat, s, (st : Int)) else relation_reader_run.l0 k false (wrap64 ((i : Int) + 1)) s (st : Int)) (fun k => ?_) ?_
  · simp only [relation_reader_run.l0, bt_eq s i hi, if_pos (show (i : Int) < s.size by omega), if_pos (show (0 : Int) ≤ i by omega), if_pos (show (0 : Int) ≤ st by omega), if_pos (show (st : Int) ≤ i by omega), if_pos (show (i : Int) ≤ s.size by omega), Bool.false_eq_true, if_false]
  · refine Ev.bind (kind_ev _) ?_
    rcases kd_stop.2 hk with hk | hk
    · simp only [if_pos hk]; exact Ev.now _
    · simp only [if_neg (show ¬ kd (s[i]'hi) = 1 by omega), if_pos hk]; exact Ev.now _
theorem runstep (s : ByteArray) (st i : Nat) (hs : s.size ≤ 140737488351232) (hi : i < s.size) (hst : st ≤ i) (hk : ¬ wrdB (s[i]'hi) = false) (v : ByteArray × ByteArray × Int)
    (h : Ev (fun k => relation_reader_run.l0 k false ((i + 1 : Nat) : Int) s (st : Int)) v) : Ev (fun k => relation_reader_run.l0 k false (i : Int) s (st : Int)) v := by
  have ew : wrap64 ((i : Int) + 1) = ((i + 1 : Nat) : Int) := by rw [wrap_id (by omega) (by omega)]; omega
  refine Ev.step (f := fun k => (relation_kind.f k ((s[i]'hi).toNat : Int)).bind fun t => if t = 1 then some (s.extract (st : Int).toNat (i : Int).toNat, s, (st : Int)) else if t = 2 then some (s.extract (st : Int).toNat (i : Int).toNat, s, (st : Int)) else relation_reader_run.l0 k false ((i + 1 : Nat) : Int) s (st : Int)) (fun k => ?_) ?_
  · simp only [relation_reader_run.l0, bt_eq s i hi, if_pos (show (i : Int) < s.size by omega), if_pos (show (0 : Int) ≤ i by omega), if_pos (show (0 : Int) ≤ st by omega), if_pos (show (st : Int) ≤ i by omega), if_pos (show (i : Int) ≤ s.size by omega), Bool.false_eq_true, if_false, ew]
  · refine Ev.bind (kind_ev _) ?_
    simp only [if_neg (fun q => hk (kd_stop.1 (.inl q))), if_neg (fun q => hk (kd_stop.1 (.inr q)))]
    exact h
theorem signstop (s : ByteArray) (st i : Nat) (hs : s.size ≤ 140737488351232) (hi : i < s.size) (hst : st ≤ i) (hk : ¬ mrkB (s[i]'hi) = true) :
    Ev (fun k => relation_reader_run.l0 k true (i : Int) s (st : Int)) (s.extract (st : Int).toNat (i : Int).toNat, s, (st : Int)) := by
  refine Ev.step (f := fun k => (relation_kind.f k ((s[i]'hi).toNat : Int)).bind fun t => if t = 3 then (if t = 1 then some (s.extract (st : Int).toNat (i : Int).toNat, s, (st : Int)) else if t = 2 then some (s.extract (st : Int).toNat (i : Int).toNat, s, (st : Int)) else relation_reader_run.l0 k true (wrap64 ((i : Int) + 1)) s (st : Int)) else some (s.extract (st : Int).toNat (i : Int).toNat, s, (st : Int))) (fun k => ?_) ?_
  · simp only [relation_reader_run.l0, bt_eq s i hi, if_pos (show (i : Int) < s.size by omega), if_pos (show (0 : Int) ≤ i by omega), if_pos (show (0 : Int) ≤ st by omega), if_pos (show (st : Int) ≤ i by omega), if_pos (show (i : Int) ≤ s.size by omega), if_true]
  · refine Ev.bind (kind_ev _) ?_
    simp only [if_neg (fun q => hk ((kd_mark _).1 q))]; exact Ev.now _
theorem signstep (s : ByteArray) (st i : Nat) (hs : s.size ≤ 140737488351232) (hi : i < s.size) (hst : st ≤ i) (hk : mrkB (s[i]'hi) = true) (v : ByteArray × ByteArray × Int)
    (h : Ev (fun k => relation_reader_run.l0 k true ((i + 1 : Nat) : Int) s (st : Int)) v) : Ev (fun k => relation_reader_run.l0 k true (i : Int) s (st : Int)) v := by
  have ew : wrap64 ((i : Int) + 1) = ((i + 1 : Nat) : Int) := by rw [wrap_id (by omega) (by omega)]; omega
  have hk := (kd_mark _).2 hk
  refine Ev.step (f := fun k => (relation_kind.f k ((s[i]'hi).toNat : Int)).bind fun t => if t = 3 then (if t = 1 then some (s.extract (st : Int).toNat (i : Int).toNat, s, (st : Int)) else if t = 2 then some (s.extract (st : Int).toNat (i : Int).toNat, s, (st : Int)) else relation_reader_run.l0 k true ((i + 1 : Nat) : Int) s (st : Int)) else some (s.extract (st : Int).toNat (i : Int).toNat, s, (st : Int))) (fun k => ?_) ?_
  · simp only [relation_reader_run.l0, bt_eq s i hi, if_pos (show (i : Int) < s.size by omega), if_pos (show (0 : Int) ≤ i by omega), if_pos (show (0 : Int) ≤ st by omega), if_pos (show (st : Int) ≤ i by omega), if_pos (show (i : Int) ≤ s.size by omega), if_true, ew]
  · refine Ev.bind (kind_ev _) ?_
    simp only [if_pos hk, if_neg (show ¬ kd (s[i]'hi) = 1 by omega), if_neg (show ¬ kd (s[i]'hi) = 2 by omega)]
    exact h
theorem word_ev (s : ByteArray) (st : Nat) (hs : s.size ≤ 140737488351232) : ∀ (d i : Nat), i + d = s.size → st ≤ i → ∃ e : Nat, i ≤ e ∧ e ≤ s.size ∧ at_ s e = (at_ s i).dropWhile wrdB ∧ e - i = ((at_ s i).takeWhile wrdB).length ∧
    Ev (fun k => relation_reader_run.l0 k false (i : Int) s (st : Int)) (s.extract (st : Int).toNat (e : Int).toNat, s, (st : Int)) := by
  intro d
  induction d with
  | zero =>
    intro i hi hst
    obtain rfl : i = s.size := by omega
    refine ⟨s.size, Nat.le_refl _, by omega, by rw [at_end]; rfl, by rw [at_end]; simp, ?_⟩
    refine Ev.step (f := fun _ => some (s.extract (st : Int).toNat (s.size : Int).toNat, s, (st : Int))) (fun k => ?_) (Ev.now _)
    simp only [relation_reader_run.l0]
    rw [if_neg (by omega), if_pos (by omega), if_pos (by omega), if_pos (by omega)]
  | succ d ih =>
    intro i hi hst
    have hl : i < s.size := by omega
    rw [at_lt hl]
    by_cases hk : wrdB (s[i]'hl) = false
    · refine ⟨i, Nat.le_refl _, by omega, ?_, ?_, runstop s st i hs hl hst hk⟩
      · rw [at_lt hl, List.dropWhile_cons, if_neg (by simp [hk])]
      · rw [List.takeWhile_cons, if_neg (by simp [hk])]; simp
    · have hk' : wrdB (s[i]'hl) = true := by simpa using hk
      obtain ⟨e, h1, h2, h3, h4, h5⟩ := ih (i + 1) (by omega) (by omega)
      refine ⟨e, by omega, h2, ?_, ?_, runstep s st i hs hl hst hk _ h5⟩
      · rw [h3, List.dropWhile_cons, if_pos hk']
      · rw [List.takeWhile_cons, if_pos hk', List.length_cons]; omega
theorem sign_ev (s : ByteArray) (st : Nat) (hs : s.size ≤ 140737488351232) : ∀ (d i : Nat), i + d = s.size → st ≤ i → ∃ e : Nat, i ≤ e ∧ e ≤ s.size ∧ at_ s e = (at_ s i).dropWhile mrkB ∧ e - i = ((at_ s i).takeWhile mrkB).length ∧
    Ev (fun k => relation_reader_run.l0 k true (i : Int) s (st : Int)) (s.extract (st : Int).toNat (e : Int).toNat, s, (st : Int)) := by
  intro d
  induction d with
  | zero =>
    intro i hi hst
    obtain rfl : i = s.size := by omega
    refine ⟨s.size, Nat.le_refl _, by omega, by rw [at_end]; rfl, by rw [at_end]; simp, ?_⟩
    refine Ev.step (f := fun _ => some (s.extract (st : Int).toNat (s.size : Int).toNat, s, (st : Int))) (fun k => ?_) (Ev.now _)
    simp only [relation_reader_run.l0]
    rw [if_neg (by omega), if_pos (by omega), if_pos (by omega), if_pos (by omega)]
  | succ d ih =>
    intro i hi hst
    have hl : i < s.size := by omega
    rw [at_lt hl]
    by_cases hk : mrkB (s[i]'hl) = true
    · obtain ⟨e, h1, h2, h3, h4, h5⟩ := ih (i + 1) (by omega) (by omega)
      refine ⟨e, by omega, h2, ?_, ?_, signstep s st i hs hl hst hk _ h5⟩
      · rw [h3, List.dropWhile_cons, if_pos hk]
      · rw [List.takeWhile_cons, if_pos hk, List.length_cons]; omega
    · refine ⟨i, Nat.le_refl _, by omega, ?_, ?_, signstop s st i hs hl hst hk⟩
      · rw [at_lt hl, List.dropWhile_cons, if_neg hk]
      · rw [List.takeWhile_cons, if_neg hk]; simp
def closeM (x : S46) (r : B) : (Int ⊕ S46) × B := match r with
  | [] => (.inl 220, [])
  | c :: r => if c = 41 then (.inr x, dg r) else (.inl 220, c :: r)
def versM (nm : B) (op : Int) (r4 : B) : (Int ⊕ S46) × B :=
  if r4.takeWhile wrdB = [] then (.inl 220, r4) else if okS (ofL (r4.takeWhile wrdB)) = false then (.inl 200, r4) else
  closeM ⟨ofL nm, op, ofL (r4.takeWhile wrdB)⟩ (dg (r4.dropWhile wrdB))
def operM (nm : B) (r3 : B) : (Int ⊕ S46) × B :=
  if opOf (ofL (r3.takeWhile mrkB)) = 0 then (.inl 220, r3) else versM nm (opOf (ofL (r3.takeWhile mrkB))) (dg (r3.dropWhile mrkB))
def openM (nm : B) (r1 : B) : (Int ⊕ S46) × B := match r1 with
  | [] => (.inr ⟨ofL nm, 0, ⟨#[]⟩⟩, [])
  | c :: r => if c = 40 then operM nm (dg r) else (.inr ⟨ofL nm, 0, ⟨#[]⟩⟩, c :: r)
def relM (l : B) : (Int ⊕ S46) × B :=
  if l.takeWhile wrdB = [] then (.inl 220, l) else if nameM (l.takeWhile wrdB) = false then (.inl 230, l) else openM (l.takeWhile wrdB) (dg (l.dropWhile wrdB))
def relOut (s : ByteArray) (e : Int) : Int ⊕ S46 → ByteArray × Int × ByteArray × Int × ByteArray × Int
  | .inl er => noRel er s e
  | .inr x => (x.f0, x.f1, x.f2, 0, s, e)
theorem pass_ev (s : ByteArray) (hs : s.size ≤ 140737488351232) (i n : Nat) (h : i + n ≤ s.size) : ∃ e : Nat, i + n ≤ e ∧ e ≤ s.size ∧ at_ s e = dg (at_ s (i + n)) ∧ Ev (fun k => relation_reader_pass.f k s (i : Int) (n : Int)) (s, (e : Int)) := by
  obtain ⟨e, h1, h2, h3, h4⟩ := gaps_ev s hs (s.size - (i + n)) (i + n) (by omega)
  refine ⟨e, h1, h2, h3, ?_⟩
  unfold relation_reader_pass.f
  have ew : wrap64 ((i : Int) + (n : Int)) = ((i + n : Nat) : Int) := by rw [wrap_id (by omega) (by omega)]; omega
  simp only [ew]
  exact Ev.bind h4 (Ev.now _)
theorem takes_yes (s : ByteArray) (hs : s.size ≤ 140737488351232) (i : Nat) (c : Int) (h : i < s.size) (hc : bt s i = c) : ∃ e : Nat, i < e ∧ e ≤ s.size ∧ at_ s e = dg (at_ s (i + 1)) ∧ Ev (fun k => relation_reader_takes.f k s (i : Int) c) (true, s, (e : Int)) := by
  obtain ⟨e, h1, h2, h3, h4⟩ := pass_ev s hs i 1 (by omega)
  refine ⟨e, by omega, h2, h3, ?_⟩
  unfold relation_reader_takes.f
  simp only [if_neg (show ¬ (i : Int) = s.size by omega), if_pos (show (0 : Int) ≤ i by omega), if_pos (show (i : Int) < s.size by omega), if_pos hc]
  exact Ev.bind h4 (Ev.now _)
theorem takes_no (s : ByteArray) (i : Nat) (c : Int) (hi : i ≤ s.size) (h : i = s.size ∨ ¬ bt s i = c) : Ev (fun k => relation_reader_takes.f k s (i : Int) c) (false, s, (i : Int)) := by
  unfold relation_reader_takes.f
  by_cases he : i = s.size
  · simp only [if_pos (show (i : Int) = s.size by omega)]
    exact Ev.now _
  · have hb : ¬ bt s i = c := h.resolve_left he
    simp only [if_neg (show ¬ (i : Int) = s.size by omega), if_pos (show (0 : Int) ≤ i by omega), if_pos (show (i : Int) < s.size by omega), if_neg hb]
    exact Ev.now _
theorem close_ev (s : ByteArray) (hs : s.size ≤ 140737488351232) (i : Nat) (hi : i ≤ s.size) (x : S46) : ∃ e : Nat, i ≤ e ∧ e ≤ s.size ∧ at_ s e = (closeM x (at_ s i)).2 ∧
    Ev (fun k => (relation_reader_takes.f k s (i : Int) 41).bind fun x8 => if x8.1 = false then some (noRel 220 x8.2.1 x8.2.2) else some (x.f0, x.f1, x.f2, (0 : Int), x8.2.1, x8.2.2)) (relOut s (e : Int) (closeM x (at_ s i)).1) := by
  cases hl : at_ s i with
  | nil =>
    refine ⟨i, Nat.le_refl _, hi, hl, ?_⟩
    refine Ev.bind (takes_no s i 41 hi (.inl (at_nil hi hl))) ?_
    simp only [if_true, closeM, relOut]
    exact Ev.now _
  | cons c r =>
    obtain ⟨h1, h2, h3⟩ := at_cons hi hl
    by_cases hc : c = 41
    · subst hc
      obtain ⟨e, e1, e2, e3, e4⟩ := takes_yes s hs i 41 h1 h2
      refine ⟨e, by omega, e2, by rw [e3, h3]; simp [closeM], ?_⟩
      refine Ev.bind e4 ?_
      simp only [Bool.true_eq_false, if_false, closeM, if_true, relOut]
      exact Ev.now _
    · refine ⟨i, Nat.le_refl _, hi, by rw [hl]; simp [closeM, hc], ?_⟩
      refine Ev.bind (takes_no s i 41 hi (.inr ?_)) ?_
      · rw [h2]
        exact fun q => hc (toNat_inj.1 (show (c.toNat : Int) = ((41 : UInt8).toNat : Int) from q))
      · simp only [if_true, closeM, if_neg hc, relOut]
        exact Ev.now _
theorem vers_ev (s : ByteArray) (hs : s.size ≤ 140737488351232) (i : Nat) (hi : i ≤ s.size) (nm : B) (op : Int) : ∃ e : Nat, i ≤ e ∧ e ≤ s.size ∧ at_ s e = (versM nm op (at_ s i)).2 ∧
    Ev (fun k => (relation_reader_run.f k s (i : Int) false).bind fun x6 => if x6.1.toList = [] then some (noRel 220 x6.2.1 x6.2.2) else
      (version_Legal.f k x6.1).bind fun lg => if lg = false then some (noRel 200 x6.2.1 x6.2.2) else
      (relation_reader_pass.f k x6.2.1 x6.2.2 x6.1.size).bind fun x7 => (relation_reader_takes.f k x7.1 x7.2 41).bind fun x8 => if x8.1 = false then some (noRel 220 x8.2.1 x8.2.2) else some (ofL nm, op, x6.1, (0 : Int), x8.2.1, x8.2.2)) (relOut s (e : Int) (versM nm op (at_ s i)).1) := by
  obtain ⟨x, hx1, hx2, hx3, hx4, hx5⟩ := word_ev s i hs (s.size - i) i (by omega) (Nat.le_refl _)
  have hv : s.extract (i : Int).toNat (x : Int).toNat = ofL ((at_ s i).takeWhile wrdB) := by rw [ext_at, hx4, take_tw]
  rw [hv] at hx5
  have hr : Ev (fun k => relation_reader_run.f k s (i : Int) false) (ofL ((at_ s i).takeWhile wrdB), s, (i : Int)) := hx5
  by_cases e1 : (at_ s i).takeWhile wrdB = []
  · refine ⟨i, Nat.le_refl _, hi, by simp only [versM, if_pos e1], ?_⟩
    refine Ev.bind hr ?_
    simp only [ofL_list, if_pos e1, versM, relOut]
    exact Ev.now _
  have hL := plegal_ev (ofL ((at_ s i).takeWhile wrdB)) (by rw [ofL_size]; omega)
  by_cases e2 : okS (ofL ((at_ s i).takeWhile wrdB)) = false
  · refine ⟨i, Nat.le_refl _, hi, by simp only [versM, if_neg e1, if_pos e2], ?_⟩
    refine Ev.bind hr ?_
    simp only [ofL_list, if_neg e1]
    refine Ev.bind hL ?_
    simp only [if_pos e2, versM, if_neg e1, relOut]
    exact Ev.now _
  obtain ⟨p, hp1, hp2, hp3, hp4⟩ := pass_ev s hs i (x - i) (by omega)
  rw [show i + (x - i) = x by omega, hx3] at hp3
  obtain ⟨e, c1, c2, c3, c4⟩ := close_ev s hs p hp2 ⟨ofL nm, op, ofL ((at_ s i).takeWhile wrdB)⟩
  rw [hp3] at c3 c4
  refine ⟨e, by omega, c2, by rw [c3]; simp only [versM, if_neg e1, if_neg e2], ?_⟩
  refine Ev.bind hr ?_
  simp only [ofL_list, if_neg e1]
  refine Ev.bind hL ?_
  simp only [if_neg e2, versM, if_neg e1, ofL_size, ← hx4]
  exact Ev.bind hp4 c4
theorem oper_ev (s : ByteArray) (hs : s.size ≤ 140737488351232) (i : Nat) (hi : i ≤ s.size) (nm : B) : ∃ e : Nat, i ≤ e ∧ e ≤ s.size ∧ at_ s e = (operM nm (at_ s i)).2 ∧
    Ev (fun k => (relation_reader_run.f k s (i : Int) true).bind fun x4 => if opOf x4.1 = 0 then some (noRel 220 x4.2.1 x4.2.2) else
      (relation_reader_pass.f k x4.2.1 x4.2.2 x4.1.size).bind fun x5 => (relation_reader_run.f k x5.1 x5.2 false).bind fun x6 => if x6.1.toList = [] then some (noRel 220 x6.2.1 x6.2.2) else
      (version_Legal.f k x6.1).bind fun lg => if lg = false then some (noRel 200 x6.2.1 x6.2.2) else
      (relation_reader_pass.f k x6.2.1 x6.2.2 x6.1.size).bind fun x7 => (relation_reader_takes.f k x7.1 x7.2 41).bind fun x8 => if x8.1 = false then some (noRel 220 x8.2.1 x8.2.2) else some (ofL nm, opOf x4.1, x6.1, (0 : Int), x8.2.1, x8.2.2)) (relOut s (e : Int) (operM nm (at_ s i)).1) := by
  obtain ⟨x, hx1, hx2, hx3, hx4, hx5⟩ := sign_ev s i hs (s.size - i) i (by omega) (Nat.le_refl _)
  have hv : s.extract (i : Int).toNat (x : Int).toNat = ofL ((at_ s i).takeWhile mrkB) := by rw [ext_at, hx4, take_tw]
  rw [hv] at hx5
  have hr : Ev (fun k => relation_reader_run.f k s (i : Int) true) (ofL ((at_ s i).takeWhile mrkB), s, (i : Int)) := hx5
  by_cases e1 : opOf (ofL ((at_ s i).takeWhile mrkB)) = 0
  · refine ⟨i, Nat.le_refl _, hi, by simp only [operM, if_pos e1], ?_⟩
    refine Ev.bind hr ?_
    simp only [if_pos e1, operM, relOut]
    exact Ev.now _
  obtain ⟨p, hp1, hp2, hp3, hp4⟩ := pass_ev s hs i (x - i) (by omega)
  rw [show i + (x - i) = x by omega, hx3] at hp3
  obtain ⟨e, c1, c2, c3, c4⟩ := vers_ev s hs p hp2 nm (opOf (ofL ((at_ s i).takeWhile mrkB)))
  rw [hp3] at c3 c4
  refine ⟨e, by omega, c2, by rw [c3]; simp only [operM, if_neg e1], ?_⟩
  refine Ev.bind hr ?_
  simp only [if_neg e1, operM, ofL_size, ← hx4]
  exact Ev.bind hp4 c4
theorem rel_ev (s : ByteArray) (hs : s.size ≤ 140737488351232) (i : Nat) (hi : i ≤ s.size) : ∃ e : Nat, i ≤ e ∧ e ≤ s.size ∧ at_ s e = (relM (at_ s i)).2 ∧
    Ev (fun k => relation_reader_relation.f k s (i : Int)) (relOut s (e : Int) (relM (at_ s i)).1) := by
  obtain ⟨x, hx1, hx2, hx3, hx4, hx5⟩ := word_ev s i hs (s.size - i) i (by omega) (Nat.le_refl _)
  have hv : s.extract (i : Int).toNat (x : Int).toNat = ofL ((at_ s i).takeWhile wrdB) := by rw [ext_at, hx4, take_tw]
  rw [hv] at hx5
  have hr : Ev (fun k => relation_reader_run.f k s (i : Int) false) (ofL ((at_ s i).takeWhile wrdB), s, (i : Int)) := hx5
  unfold relation_reader_relation.f
  by_cases e1 : (at_ s i).takeWhile wrdB = []
  · refine ⟨i, Nat.le_refl _, hi, by simp only [relM, if_pos e1], ?_⟩
    refine Ev.bind hr ?_
    simp only [ofL_list, if_pos e1, relM, relOut]
    exact Ev.now _
  have hN := name_ev (ofL ((at_ s i).takeWhile wrdB)) (by rw [ofL_size]; omega)
  rw [toL_ofL] at hN
  by_cases e2 : nameM ((at_ s i).takeWhile wrdB) = false
  · refine ⟨i, Nat.le_refl _, hi, by simp only [relM, if_neg e1, if_pos e2], ?_⟩
    refine Ev.bind hr ?_
    simp only [ofL_list, if_neg e1]
    refine Ev.bind hN ?_
    simp only [if_pos e2, relM, if_neg e1, relOut]
    exact Ev.now _
  obtain ⟨p, hp1, hp2, hp3, hp4⟩ := pass_ev s hs i (x - i) (by omega)
  rw [show i + (x - i) = x by omega, hx3] at hp3
  have hP : ∀ {v}, Ev (fun k => (relation_reader_takes.f k s (p : Int) 40).bind fun x3 => if x3.1 = false then some (ofL ((at_ s i).takeWhile wrdB), 0, ⟨#[]⟩, 0, x3.2.1, x3.2.2) else
      (relation_reader_run.f k x3.2.1 x3.2.2 true).bind fun x4 => if opOf x4.1 = 0 then some (noRel 220 x4.2.1 x4.2.2) else
      (relation_reader_pass.f k x4.2.1 x4.2.2 x4.1.size).bind fun x5 => (relation_reader_run.f k x5.1 x5.2 false).bind fun x6 => if x6.1.toList = [] then some (noRel 220 x6.2.1 x6.2.2) else
      (version_Legal.f k x6.1).bind fun lg => if lg = false then some (noRel 200 x6.2.1 x6.2.2) else
      (relation_reader_pass.f k x6.2.1 x6.2.2 x6.1.size).bind fun x7 => (relation_reader_takes.f k x7.1 x7.2 41).bind fun x8 => if x8.1 = false then some (noRel 220 x8.2.1 x8.2.2) else some (ofL ((at_ s i).takeWhile wrdB), opOf x4.1, x6.1, 0, x8.2.1, x8.2.2)) v →
      Ev (fun k => (relation_reader_run.f k s (i : Int) false).bind fun x1 => if x1.1.toList = [] then some (noRel 220 x1.2.1 x1.2.2) else
      (relation_Name.f k x1.1).bind fun nm => if nm = false then some (noRel 230 x1.2.1 x1.2.2) else
      (relation_reader_pass.f k x1.2.1 x1.2.2 x1.1.size).bind fun x2 => (relation_reader_takes.f k x2.1 x2.2 40).bind fun x3 => if x3.1 = false then some (x1.1, 0, ⟨#[]⟩, 0, x3.2.1, x3.2.2) else
      (relation_reader_run.f k x3.2.1 x3.2.2 true).bind fun x4 => if opOf x4.1 = 0 then some (noRel 220 x4.2.1 x4.2.2) else
      (relation_reader_pass.f k x4.2.1 x4.2.2 x4.1.size).bind fun x5 => (relation_reader_run.f k x5.1 x5.2 false).bind fun x6 => if x6.1.toList = [] then some (noRel 220 x6.2.1 x6.2.2) else
      (version_Legal.f k x6.1).bind fun lg => if lg = false then some (noRel 200 x6.2.1 x6.2.2) else
      (relation_reader_pass.f k x6.2.1 x6.2.2 x6.1.size).bind fun x7 => (relation_reader_takes.f k x7.1 x7.2 41).bind fun x8 => if x8.1 = false then some (noRel 220 x8.2.1 x8.2.2) else some (x1.1, opOf x4.1, x6.1, 0, x8.2.1, x8.2.2)) v := by
    intro v h
    refine Ev.bind hr ?_
    simp only [ofL_list, if_neg e1]
    refine Ev.bind hN ?_
    simp only [if_neg e2, ofL_size, ← hx4]
    exact Ev.bind hp4 h
  have eM : relM (at_ s i) = openM ((at_ s i).takeWhile wrdB) (at_ s p) := by
    rw [hp3]
    simp only [relM, if_neg e1, if_neg e2]
  rw [eM]
  clear hr hN hp4
  cases hl : at_ s p with
  | nil =>
    refine ⟨p, by omega, hp2, hl, hP ?_⟩
    refine Ev.bind (takes_no s p 40 hp2 (.inl (at_nil hp2 hl))) ?_
    simp only [if_true, openM, relOut]
    exact Ev.now _
  | cons c r =>
    obtain ⟨h1, h2, h3⟩ := at_cons hp2 hl
    by_cases hc : c = 40
    · subst hc
      obtain ⟨q, q1, q2, q3, q4⟩ := takes_yes s hs p 40 h1 h2
      rw [h3] at q3
      obtain ⟨e, c1, c2, c3, c4⟩ := oper_ev s hs q q2 ((at_ s i).takeWhile wrdB)
      rw [q3] at c3 c4
      refine ⟨e, by omega, c2, by rw [c3]; simp only [openM, if_true], hP ?_⟩
      refine Ev.bind q4 ?_
      simp only [Bool.true_eq_false, if_false, openM, if_true]
      exact c4
    · refine ⟨p, by omega, hp2, by rw [hl]; simp only [openM, if_neg hc], hP ?_⟩
      refine Ev.bind (takes_no s p 40 hp2 (.inr ?_)) ?_
      · rw [h2]
        exact fun q => hc (toNat_inj.1 (show (c.toNat : Int) = ((40 : UInt8).toNat : Int) from q))
      · simp only [if_true, openM, if_neg hc, relOut]
        exact Ev.now _
end Go.Proofs.YtmocooihkobdjaaDoor.Model
end
section
set_option linter.unusedVariables false
set_option linter.unusedSimpArgs false
namespace Go.Proofs.YtmocooihkobdjaaDoor.Model
open Go.RowKit Go.Proofs.YtmocooihkobdjaaDoor.G Go.Proofs.YtmocooihkobdjaaDoorW.PrintWords Go.Proofs.YtmocooihkobdjaaDoorW.PrintLast Go.Proofs.YtmocooihkobdjaaDoor.Ver
def formM (x : S46) : Bool := nameM x.f0.data.toList && (if x.f1 = 0 then x.f2.toList == ([] : List UInt8) else if (wordOf x.f1).toList = ([] : List UInt8) then false else okS x.f2)
def textM (x : S46) : B := if x.f1 = 0 then x.f0.data.toList else x.f0.data.toList ++ ([32, 40] ++ ((wordOf x.f1).data.toList ++ ([32] ++ (x.f2.data.toList ++ [41]))))
def rowT (m : List S46) : B := Lib.join (m.map textM) [32, 124, 32]
def textsM (L : List (List S46)) : B := Lib.join (L.map rowT) [44, 32]
def okL (L : List (List S46)) : Bool := L.all (fun m => !m.isEmpty && m.all formM)
theorem joinTail_cons (sep : B) (x : B) (r : List B) : Lib.joinTail sep (x :: r) = sep ++ (x ++ Lib.joinTail sep r) := by
  simp [Lib.joinTail]
theorem rowT_cons (x : S46) (m : List S46) : rowT (x :: m) = textM x ++ Lib.joinTail [32, 124, 32] (m.map textM) := by
  unfold rowT
  rw [List.map_cons, Lib.join_cons]
theorem rd_at {L : List (List S46)} {i : Nat} (h : i < L.length) : rd_L3 L (i : Int) = L[i] := by
  unfold rd_L3
  rw [Int.toNat_natCast, List.getD_eq_getElem?_getD, List.getElem?_eq_getElem h, Option.getD_some]
theorem rt_at {l : List S46} {i : Nat} (h : i < l.length) : rd_T46 l (i : Int) = l[i] := by
  unfold rd_T46
  rw [Int.toNat_natCast, List.getD_eq_getElem?_getD, List.getElem?_eq_getElem h, Option.getD_some]
theorem drop_at {α : Type} {l : List α} {i : Nat} (h : i < l.length) : l.drop i = l[i] :: l.drop (i + 1) := List.drop_eq_getElem_cons h
theorem row_len {L : List (List S46)} {m : List S46} (h : m ∈ L) : m.length ≤ L.flatten.length := by
  induction L with
  | nil => cases h
  | cons a L ih =>
    simp only [List.flatten_cons, List.length_append]
    rcases List.mem_cons.1 h with q | q
    · rw [q]; omega
    · have := ih q; omega
def full (L : List (List S46)) : Bool := L.all (fun m => !m.isEmpty)
def fair (L : List (List S46)) : Bool := L.all (fun m => m.all formM)
theorem okL_parts (L : List (List S46)) : okL L = (full L && fair L) := by
  unfold okL full fair
  induction L with
  | nil => rfl
  | cons m L ih =>
    rw [List.all_cons, List.all_cons, List.all_cons, ih]
    cases m.isEmpty <;> cases m.all formM <;> simp
theorem fair_flat (L : List (List S46)) : L.flatten.all formM = fair L := by
  unfold fair
  induction L with
  | nil => rfl
  | cons m L ih => rw [List.flatten_cons, List.all_append, List.all_cons, ih]
end Go.Proofs.YtmocooihkobdjaaDoor.Model
end
section
set_option linter.unusedVariables false
set_option linter.unusedSimpArgs false
namespace Go.Proofs.YtmocooihkobdjaaDoor.Model
open Go.RowKit Go.Proofs.YtmocooihkobdjaaDoor.G Go.Proofs.YtmocooihkobdjaaDoorW.PrintWords Go.Proofs.YtmocooihkobdjaaDoorW.PrintLast Go.Proofs.YtmocooihkobdjaaDoor.Ver
theorem dg_le (l : B) : (dg l).length ≤ l.length := (List.dropWhile_sublist _).length_le
theorem dg_dg (l : B) : dg (dg l) = dg l := by
  unfold dg
  induction l with
  | nil => rfl
  | cons c l ih =>
    rw [List.dropWhile_cons]
    split
    · exact ih
    · rw [List.dropWhile_cons]; rw [if_neg ‹_›]
theorem tw_dw (p : UInt8 → Bool) (l : B) : (l.takeWhile p).length + (l.dropWhile p).length = l.length := by
  have := congrArg List.length (List.takeWhile_append_dropWhile (p := p) (l := l))
  rw [List.length_append] at this
  exact this
def relSize (x : S46) : Nat := x.f0.size + x.f2.size
theorem word_op (m : ByteArray) (h : ¬ opOf m = 0) : wordOf (opOf m) = m := by
  have hm : m = ofL m.toList := by
    obtain ⟨⟨x⟩⟩ := m
    rw [ByteArray.toList_eq]; rfl
  obtain ⟨i1, i2, i3, i4, i5⟩ := opOf_iff m
  have hb := opOf_bd m
  have hc : opOf m = 1 ∨ opOf m = 2 ∨ opOf m = 3 ∨ opOf m = 4 ∨ opOf m = 5 := by omega
  rcases hc with e | e | e | e | e
  · rw [e, hm, i1.1 e]; rfl
  · rw [e, hm, i2.1 e]; rfl
  · rw [e, hm, i3.1 e]; rfl
  · rw [e, hm, i4.1 e]; rfl
  · rw [e, hm, i5.1 e]; rfl
theorem closeM_inr {x y : S46} {l r : B} (h : closeM x l = (.inr y, r)) : y = x ∧ r.length < l.length ∧ dg r = r := by
  unfold closeM at h
  split at h
  · simp at h
  · split at h
    · simp only [Prod.mk.injEq, Sum.inr.injEq] at h
      obtain ⟨rfl, rfl⟩ := h
      rename_i c r' _
      have := dg_le r'
      exact ⟨rfl, by simp only [List.length_cons]; omega, dg_dg _⟩
    · simp at h
theorem closeM_inl {x : S46} {e : Int} {l r : B} (h : closeM x l = (.inl e, r)) : e = 220 ∧ r.length ≤ l.length := by
  unfold closeM at h
  split at h
  · simp only [Prod.mk.injEq, Sum.inl.injEq] at h
    obtain ⟨rfl, rfl⟩ := h
    exact ⟨rfl, Nat.le_refl _⟩
  · split at h
    · simp at h
    · simp only [Prod.mk.injEq, Sum.inl.injEq] at h
      obtain ⟨rfl, rfl⟩ := h
      exact ⟨rfl, Nat.le_refl _⟩
theorem versM_inr {nm : B} {op : Int} {y : S46} {l r : B} (h : versM nm op l = (.inr y, r)) : y.f0 = ofL nm ∧ y.f1 = op ∧ okS y.f2 = true ∧ y.f2.size + r.length < l.length ∧ dg r = r := by
  unfold versM at h
  split at h
  · simp at h
  · split at h
    · simp at h
    · rename_i h1 h2
      obtain ⟨rfl, h3, h4⟩ := closeM_inr h
      refine ⟨rfl, rfl, by simpa using h2, ?_, h4⟩
      have a1 := tw_dw wrdB l
      have a2 := dg_le (l.dropWhile wrdB)
      simp only [ofL_size]
      omega
theorem versM_inl {nm : B} {op : Int} {e : Int} {l r : B} (h : versM nm op l = (.inl e, r)) : (e = 220 ∨ e = 200) ∧ r.length ≤ l.length := by
  unfold versM at h
  split at h
  · simp only [Prod.mk.injEq, Sum.inl.injEq] at h
    obtain ⟨rfl, rfl⟩ := h
    exact ⟨.inl rfl, Nat.le_refl _⟩
  · split at h
    · simp only [Prod.mk.injEq, Sum.inl.injEq] at h
      obtain ⟨rfl, rfl⟩ := h
      exact ⟨.inr rfl, Nat.le_refl _⟩
    · obtain ⟨rfl, h3⟩ := closeM_inl h
      have a1 := tw_dw wrdB l
      have a2 := dg_le (l.dropWhile wrdB)
      exact ⟨.inl rfl, by omega⟩
theorem operM_inr {nm : B} {y : S46} {l r : B} (h : operM nm l = (.inr y, r)) : y.f0 = ofL nm ∧ ¬ y.f1 = 0 ∧ ¬ (wordOf y.f1).toList = [] ∧ okS y.f2 = true ∧ y.f2.size + r.length < l.length ∧ dg r = r := by
  unfold operM at h
  split at h
  · simp at h
  · rename_i h1
    obtain ⟨a, b, c, d, e⟩ := versM_inr h
    have a1 := tw_dw mrkB l
    have a2 := dg_le (l.dropWhile mrkB)
    refine ⟨a, by rw [b]; exact h1, ?_, c, by omega, e⟩
    rw [b, word_op _ h1, ofL_list]
    intro q
    rw [q] at h1
    exact h1 (by unfold opOf; simp [ofL_list])
theorem operM_inl {nm : B} {e : Int} {l r : B} (h : operM nm l = (.inl e, r)) : (e = 220 ∨ e = 200) ∧ r.length ≤ l.length := by
  unfold operM at h
  split at h
  · simp only [Prod.mk.injEq, Sum.inl.injEq] at h
    obtain ⟨rfl, rfl⟩ := h
    exact ⟨.inl rfl, Nat.le_refl _⟩
  · obtain ⟨h1, h3⟩ := versM_inl h
    have a1 := tw_dw mrkB l
    have a2 := dg_le (l.dropWhile mrkB)
    exact ⟨h1, by omega⟩
theorem openM_inr {nm : B} {y : S46} {l r : B} (h : openM nm l = (.inr y, r)) (hd : dg l = l) : y.f0 = ofL nm ∧ ((y.f1 = 0 ∧ y.f2 = ⟨#[]⟩) ∨ (¬ y.f1 = 0 ∧ ¬ (wordOf y.f1).toList = [] ∧ okS y.f2 = true)) ∧ y.f2.size + r.length ≤ l.length ∧ dg r = r := by
  unfold openM at h
  split at h
  · simp only [Prod.mk.injEq, Sum.inr.injEq] at h
    obtain ⟨rfl, rfl⟩ := h
    exact ⟨rfl, .inl ⟨rfl, rfl⟩, Nat.le_refl _, rfl⟩
  · split at h
    · obtain ⟨a, b, c, d, e, f⟩ := operM_inr h
      rename_i c' r' _
      have := dg_le r'
      exact ⟨a, .inr ⟨b, c, d⟩, by simp only [List.length_cons]; omega, f⟩
    · simp only [Prod.mk.injEq, Sum.inr.injEq] at h
      obtain ⟨rfl, rfl⟩ := h
      exact ⟨rfl, .inl ⟨rfl, rfl⟩, by show 0 + _ ≤ _; omega, hd⟩
theorem openM_inl {nm : B} {e : Int} {l r : B} (h : openM nm l = (.inl e, r)) : (e = 220 ∨ e = 200) ∧ r.length ≤ l.length := by
  unfold openM at h
  split at h
  · simp at h
  · split at h
    · obtain ⟨a, b⟩ := operM_inl h
      rename_i c' r' _
      have := dg_le r'
      exact ⟨a, by simp only [List.length_cons]; omega⟩
    · simp at h
theorem relM_inr {y : S46} {l r : B} (h : relM l = (.inr y, r)) : formM y = true ∧ 1 ≤ y.f0.size ∧ relSize y + r.length ≤ l.length ∧ dg r = r := by
  unfold relM at h
  split at h
  · simp at h
  · split at h
    · simp at h
    · rename_i h1 h2
      obtain ⟨a, b, c, d⟩ := openM_inr h (dg_dg _)
      have a1 := tw_dw wrdB l
      have a2 := dg_le (l.dropWhile wrdB)
      have hn : nameM y.f0.data.toList = true := by rw [a, toL_ofL]; simpa using h2
      have hz : 1 ≤ (l.takeWhile wrdB).length := by
        rcases Nat.eq_zero_or_pos (l.takeWhile wrdB).length with q | q
        · exact absurd (List.eq_nil_of_length_eq_zero q) h1
        · exact q
      refine ⟨?_, by rw [a, ofL_size]; exact hz, ?_, d⟩
      · unfold formM
        rw [hn]
        rcases b with ⟨b1, b2⟩ | ⟨b1, b2, b3⟩
        · rw [if_pos b1, b2]
          show (true && ((ofL []).toList == [])) = true
          rw [ofL_list]; rfl
        · rw [if_neg b1, if_neg b2, b3]; rfl
      · unfold relSize
        rw [a, ofL_size]
        omega
theorem relM_inl {e : Int} {l r : B} (h : relM l = (.inl e, r)) : (e = 220 ∨ e = 230 ∨ e = 200) ∧ r.length ≤ l.length := by
  unfold relM at h
  split at h
  · simp only [Prod.mk.injEq, Sum.inl.injEq] at h
    obtain ⟨rfl, rfl⟩ := h
    exact ⟨.inl rfl, Nat.le_refl _⟩
  · split at h
    · simp only [Prod.mk.injEq, Sum.inl.injEq] at h
      obtain ⟨rfl, rfl⟩ := h
      exact ⟨.inr (.inl rfl), Nat.le_refl _⟩
    · obtain ⟨h1, h3⟩ := openM_inl h
      have a1 := tw_dw wrdB l
      have a2 := dg_le (l.dropWhile wrdB)
      exact ⟨by rcases h1 with h1 | h1 <;> simp [h1], by omega⟩
def listsM (bars : Bool) : Nat → List (List S46) → List S46 → B → List (List S46) × Int × B
  | 0, _, _, l => ([], 0, l)
  | d + 1, x8, x10, l => match relM l with
    | (.inl e, r) => ([], e, r)
    | (.inr x, []) => (x8 ++ [x10 ++ [x]], 0, [])
    | (.inr x, c :: r) =>
      if c = 124 ∧ bars = true then listsM bars d x8 (x10 ++ [x]) (dg r)
      else if c = 44 then listsM bars d (x8 ++ [x10 ++ [x]]) [] (dg r)
      else ([], 220, c :: r)
def readM (bars : Bool) (l : B) : List (List S46) × Int × B :=
  if dg l = [] then ([], 0, []) else listsM bars ((dg l).length + 1) [] [] (dg l)
def placeM (s : ByteArray) (R : List (List S46) × Int × B) : List (List S46) × Int × Int := (R.1, R.2.1, if R.2.1 = 0 then 0 else ((s.size - R.2.2.length : Nat) : Int))
theorem place_at {s : ByteArray} {e : Nat} {r : B} (he : e ≤ s.size) (h : at_ s e = r) : s.size - r.length = e := by
  rw [← h, at_len]
  omega
theorem lists_ev (s : ByteArray) (hs : s.size ≤ 140737488351232) (hb : s.size ≤ 3000000000000) (bars : Bool) : ∀ (d i : Nat), s.size - i < d → i ≤ s.size → ∀ (x8 : List (List S46)) (x10 : List S46), x8.length + x10.length ≤ i →
    Ev (fun k => relation_read.l1 k s bars x8 x10 true s (i : Int)) (placeM s (listsM bars d x8 x10 (at_ s i))) := by
  intro d
  induction d with
  | zero => intro i hd; exact absurd hd (by omega)
  | succ d ih =>
    intro i hd hi x8 x10 hlen
    obtain ⟨e, he1, he2, he3, hp⟩ := rel_ev s hs i hi
    have hP : ∀ {v}, Ev (fun k => ((relation_reader_relation.f k s (i : Int)).bind fun bt126 => (if bt126.2.2.2.1 = 0 then (if x10.length < 3518437208883 then ((some (x10 ++ [(⟨bt126.1, bt126.2.1, bt126.2.2.1⟩ : S46)] : List (S46))).bind fun y133 => (if bars = true then ((relation_reader_takes.f k bt126.2.2.2.2.1 bt126.2.2.2.2.2 124).bind fun bt136 => (relation_read.l1 k s bars x8 y133 bt136.1 bt136.2.1 bt136.2.2)) else (relation_read.l1 k s bars x8 y133 false bt126.2.2.2.2.1 bt126.2.2.2.2.2))) else (none)) else (some (([] : List (List (S46))), bt126.2.2.2.1, bt126.2.2.2.2.2))))) v → Ev (fun k => relation_read.l1 k s bars x8 x10 true s (i : Int)) v := by
      intro v h
      refine Ev.step (f := _) (fun k => ?_) h
      simp only [relation_read.l1, if_true]
    rw [listsM]
    cases hR : relM (at_ s i) with
    | mk q r =>
    rw [hR] at hp he3
    cases q with
    | inl er =>
      have hne : ¬ er = 0 := by
        rcases (relM_inl hR).1 with h | h | h <;> omega
      refine hP (Ev.bind hp ?_)
      simp only [relOut, noRel, placeM, hne, if_false]
      rw [place_at he2 he3]
      exact Ev.now _
    | inr x =>
      obtain ⟨f1, f2, f3, f4⟩ := relM_inr hR
      have hie : i < e := by
        have := at_len s i
        have h2 := at_len s e
        simp only at he3
        rw [he3] at h2
        unfold relSize at f3
        omega
      have hP2 : ∀ {v}, Ev (fun k => if bars = true then ((relation_reader_takes.f k s (e : Int) 124).bind fun bt136 => (relation_read.l1 k s bars x8 (x10 ++ [x]) bt136.1 bt136.2.1 bt136.2.2)) else (relation_read.l1 k s bars x8 (x10 ++ [x]) false s (e : Int))) v → Ev (fun k => relation_read.l1 k s bars x8 x10 true s (i : Int)) v := by
        intro v h
        refine hP (Ev.bind hp ?_)
        simp only [relOut, if_true, if_pos (show x10.length < 3518437208883 by omega), Option.bind_some]
        exact h
      have hyl : (x10 ++ [x]).length = x10.length + 1 := by simp
      have hlen8 : (x8 ++ [x10 ++ [x]]).length = x8.length + 1 := by simp
      have hP3 : ∀ {v}, Ev (fun k => relation_read.l1 k s bars x8 (x10 ++ [x]) false s (e : Int)) v → (bars = true → e = s.size ∨ ¬ bt s (e : Int) = 124) → Ev (fun k => relation_read.l1 k s bars x8 x10 true s (i : Int)) v := by
        intro v h hno
        refine hP2 ?_
        by_cases hbars : bars = true
        · simp only [if_pos hbars]
          exact Ev.bind (takes_no s e 124 he2 (hno hbars)) h
        · simp only [if_neg hbars]
          exact h
      have hP4 : ∀ {v}, Ev (fun k => (relation_reader_takes.f k s (e : Int) 44).bind fun bt123 => (relation_read.l0 k s bars (x8 ++ [x10 ++ [x]]) bt123.1 bt123.2.1 bt123.2.2)) v → (bars = true → e = s.size ∨ ¬ bt s (e : Int) = 124) → Ev (fun k => relation_read.l1 k s bars x8 x10 true s (i : Int)) v := by
        intro v h hno
        refine hP3 (Ev.step (f := _) (fun k => ?_) h) hno
        simp only [relation_read.l1, Bool.false_eq_true, if_false, if_pos (show x8.length < 5864062014805 by omega)]
      cases r with
      | nil =>
        have hes := at_nil he2 he3
        simp only [placeM, if_true]
        refine hP4 ?_ (fun _ => .inl hes)
        refine Ev.bind (takes_no s e 44 he2 (.inl hes)) ?_
        refine Ev.step (f := fun _ => some (x8 ++ [x10 ++ [x]], 0, 0)) (fun k => ?_) (Ev.now _)
        simp only [relation_read.l0, Bool.false_eq_true, if_false, if_neg (show ¬ (e : Int) < s.size by omega)]
      | cons c r =>
        obtain ⟨h1, h2, h3⟩ := at_cons he2 he3
        simp only
        by_cases hC : c = 124 ∧ bars = true
        · rw [if_pos hC]
          obtain ⟨hc, hbars⟩ := hC
          subst hc
          obtain ⟨f, hf1, hf2, hf3, hf4⟩ := takes_yes s hs e 124 h1 h2
          rw [h3] at hf3
          refine hP2 ?_
          simp only [if_pos hbars]
          refine Ev.bind hf4 ?_
          rw [← hf3]
          exact ih f (by omega) hf2 x8 (x10 ++ [x]) (by omega)
        · have hno : bars = true → e = s.size ∨ ¬ bt s (e : Int) = 124 := by
            intro hbars
            right
            rw [h2]
            exact fun q => hC ⟨toNat_inj.1 (show (c.toNat : Int) = ((124 : UInt8).toNat : Int) from q), hbars⟩
          rw [if_neg hC]
          by_cases hc : c = 44
          · rw [if_pos hc]
            subst hc
            obtain ⟨f, hf1, hf2, hf3, hf4⟩ := takes_yes s hs e 44 h1 h2
            rw [h3] at hf3
            refine hP4 ?_ hno
            refine Ev.bind hf4 ?_
            rw [← hf3]
            refine Ev.step (f := _) (fun k => ?_) (ih f (by omega) hf2 (x8 ++ [x10 ++ [x]]) [] (by rw [hlen8]; simp only [List.length_nil]; omega))
            simp only [relation_read.l0, if_true]
          · rw [if_neg hc]
            have hpl := place_at he2 he3
            simp only [placeM]
            rw [hpl]
            refine hP4 ?_ hno
            refine Ev.bind (takes_no s e 44 he2 (.inr ?_)) ?_
            · rw [h2]
              exact fun q => hc (toNat_inj.1 (show (c.toNat : Int) = ((44 : UInt8).toNat : Int) from q))
            · refine Ev.step (f := fun _ => some ([], 220, (e : Int))) (fun k => ?_) (Ev.now _)
              simp only [relation_read.l0, Bool.false_eq_true, if_false, if_pos (show (e : Int) < s.size by omega)]
theorem read_ev (s : ByteArray) (hb : s.size ≤ 3000000000000) (bars : Bool) : Ev (fun k => relation_read.f k s bars) (placeM s (readM bars s.data.toList)) := by
  have hs : s.size ≤ 140737488351232 := by omega
  obtain ⟨i, h1, h2, h3, hp⟩ := gaps_ev s hs s.size 0 (by omega)
  rw [at_zero] at h3
  unfold relation_read.f readM
  rw [← h3]
  refine Ev.bind hp ?_
  by_cases he : i = s.size
  · subst he
    simp only [if_true, at_end, placeM]
    exact Ev.now _
  · have hne : ¬ at_ s i = [] := fun q => he (at_nil h2 q)
    simp only [if_neg (show ¬ (i : Int) = s.size by omega), if_neg hne]
    refine Ev.step (f := _) (fun k => ?_) (lists_ev s hs hb bars ((at_ s i).length + 1) i (by rw [at_len]; omega) h2 [] [] (by simp))
    simp only [relation_read.l0, if_true]
end Go.Proofs.YtmocooihkobdjaaDoor.Model
end
section
set_option linter.unusedVariables false
set_option linter.unusedSimpArgs false
namespace Go.Proofs.YtmocooihkobdjaaDoor.Model
open Go.RowKit Go.Proofs.YtmocooihkobdjaaDoor.G Go.Proofs.YtmocooihkobdjaaDoorW.PrintWords Go.Proofs.YtmocooihkobdjaaDoorW.PrintLast Go.Proofs.YtmocooihkobdjaaDoor.Ver
def wt (l : List S46) : Nat := (l.map relSize).sum
theorem wt_one (x : S46) : wt [x] = relSize x := by simp [wt]
theorem wt_len {l : List S46} (h : ∀ x ∈ l, 1 ≤ x.f0.size) : l.length ≤ wt l := by
  induction l with
  | nil => exact Nat.zero_le _
  | cons x l ih =>
    have h1 := ih (fun y hy => h y (List.mem_cons_of_mem _ hy))
    have h2 := h x (List.mem_cons_self ..)
    have h3 : wt (x :: l) = relSize x + wt l := by simp [wt]
    rw [h3, List.length_cons]
    unfold relSize
    omega
def Good (x : S46) : Prop := formM x = true ∧ 1 ≤ x.f0.size
theorem listsM_ok (bars : Bool) : ∀ (d : Nat) (x8 : List (List S46)) (x10 : List S46) (l : B), l.length < d → (listsM bars d x8 x10 l).2.1 = 0 →
    (listsM bars d x8 x10 l).2.2 = [] ∧ ∃ t rest, (listsM bars d x8 x10 l).1 = x8 ++ (x10 ++ t) :: rest ∧ t ≠ [] ∧ (∀ m ∈ rest, m ≠ []) ∧ (∀ x ∈ t ++ rest.flatten, Good x) ∧ wt (t ++ rest.flatten) ≤ l.length := by
  intro d
  induction d with
  | zero => intro x8 x10 l h; omega
  | succ d ih =>
    intro x8 x10 l hd
    rw [listsM]
    split
    · rename_i e r hR
      intro h0
      have := (relM_inl hR).1
      simp only at h0
      omega
    · rename_i x hR
      intro _
      obtain ⟨f1, f2, f3, f4⟩ := relM_inr hR
      refine ⟨rfl, [x], [], by simp, by simp, by simp, ?_, ?_⟩
      · intro y hy
        obtain rfl : y = x := by simpa using hy
        exact ⟨f1, f2⟩
      · simp only [List.flatten_nil, List.append_nil, wt_one]
        simp at f3
        omega
    · rename_i x c r hR
      obtain ⟨f1, f2, f3, f4⟩ := relM_inr hR
      have hg := dg_le r
      simp only [List.length_cons] at f3
      have hsz : 1 ≤ relSize x := by unfold relSize; omega
      split
      · intro h0
        obtain ⟨a, t, rest, b1, b2, b3, b4, b5⟩ := ih x8 (x10 ++ [x]) (dg r) (by omega) h0
        refine ⟨a, x :: t, rest, by rw [b1]; simp, by simp, b3, ?_, ?_⟩
        · intro y hy
          rcases List.mem_cons.1 (show y ∈ x :: (t ++ rest.flatten) from hy) with q | q
          · rw [q]; exact ⟨f1, f2⟩
          · exact b4 y q
        · have : wt (x :: t ++ rest.flatten) = relSize x + wt (t ++ rest.flatten) := by simp [wt]
          omega
      · split
        · intro h0
          obtain ⟨a, t, rest, b1, b2, b3, b4, b5⟩ := ih (x8 ++ [x10 ++ [x]]) [] (dg r) (by omega) h0
          refine ⟨a, [x], ([] ++ t) :: rest, by rw [b1]; simp, by simp, ?_, ?_, ?_⟩
          · intro m hm
            rcases List.mem_cons.1 hm with q | q
            · rw [q]; simpa using b2
            · exact b3 m q
          · intro y hy
            have hy' : y ∈ x :: (t ++ rest.flatten) := by simpa using hy
            rcases List.mem_cons.1 hy' with q | q
            · rw [q]; exact ⟨f1, f2⟩
            · exact b4 y q
          · have : wt ([x] ++ (([] ++ t) :: rest).flatten) = relSize x + wt (t ++ rest.flatten) := by simp [wt]
            omega
        · intro h0
          simp at h0
theorem listsM_err (bars : Bool) : ∀ (d : Nat) (x8 : List (List S46)) (x10 : List S46) (l : B), l.length < d → ¬ (listsM bars d x8 x10 l).2.1 = 0 → (listsM bars d x8 x10 l).1 = [] := by
  intro d
  induction d with
  | zero => intro x8 x10 l h; omega
  | succ d ih =>
    intro x8 x10 l hd
    rw [listsM]
    split
    · intro _; rfl
    · intro h; exact absurd rfl h
    · rename_i x c r hR
      obtain ⟨f1, f2, f3, f4⟩ := relM_inr hR
      have hg := dg_le r
      simp only [List.length_cons] at f3
      split
      · exact ih _ _ _ (by omega)
      · split
        · exact ih _ _ _ (by omega)
        · intro _; rfl
theorem readM_ok (bars : Bool) (l : B) (h : (readM bars l).2.1 = 0) : (readM bars l).2.2 = [] ∧ (∀ m ∈ (readM bars l).1, m ≠ []) ∧ (∀ x ∈ (readM bars l).1.flatten, Good x) ∧ wt (readM bars l).1.flatten ≤ l.length := by
  unfold readM at h ⊢
  split at h
  · rename_i hn
    rw [if_pos hn]
    exact ⟨rfl, by simp, by simp, by simp [wt]⟩
  · rename_i hn
    rw [if_neg hn]
    obtain ⟨a, t, rest, b1, b2, b3, b4, b5⟩ := listsM_ok bars _ [] [] (dg l) (Nat.lt_succ_self _) h
    have hg := dg_le l
    have e : (listsM bars ((dg l).length + 1) [] [] (dg l)).1 = t :: rest := by simpa using b1
    rw [e]
    refine ⟨a, ?_, b4, Nat.le_trans b5 hg⟩
    intro m hm
    rcases List.mem_cons.1 hm with q | q
    · rw [q]; exact b2
    · exact b3 m q
theorem readM_err (bars : Bool) (l : B) (h : ¬ (readM bars l).2.1 = 0) : (readM bars l).1 = [] := by
  unfold readM at h ⊢
  split at h
  · exact absurd rfl h
  · rename_i hn
    rw [if_neg hn]
    exact listsM_err bars _ [] [] (dg l) (Nat.lt_succ_self _) h
theorem flat_len {L : List (List S46)} (h : ∀ m ∈ L, m ≠ []) : L.length ≤ L.flatten.length := by
  induction L with
  | nil => exact Nat.le_refl _
  | cons a L ih =>
    have h1 := ih (fun m hm => h m (List.mem_cons_of_mem _ hm))
    have h2 : 1 ≤ a.length := by
      rcases Nat.eq_zero_or_pos a.length with q | q
      · exact absurd (List.eq_nil_of_length_eq_zero q) (h a (List.mem_cons_self ..))
      · exact q
    simp only [List.flatten_cons, List.length_append, List.length_cons]
    omega
theorem readM_bd (bars : Bool) (l : B) : (readM bars l).1.flatten.length ≤ l.length ∧ (readM bars l).1.length ≤ l.length := by
  by_cases h : (readM bars l).2.1 = 0
  · obtain ⟨a, b, c, d⟩ := readM_ok bars l h
    have h1 := wt_len (fun x hx => (c x hx).2)
    have h2 := flat_len b
    omega
  · rw [readM_err bars l h]
    simp
end Go.Proofs.YtmocooihkobdjaaDoor.Model
end
section
set_option linter.unusedVariables false
set_option linter.unusedSimpArgs false
namespace Go.Proofs.YtmocooihkobdjaaDoor.Model
open Go.RowKit Go.Proofs.YtmocooihkobdjaaDoor.G Go.Proofs.YtmocooihkobdjaaDoorW.PrintWords Go.Proofs.YtmocooihkobdjaaDoorW.PrintLast Go.Proofs.YtmocooihkobdjaaDoor.Ver
theorem Read_ev (s : ByteArray) (hb : s.size ≤ 3000000000000) : Ev (fun k => relation_Read.f k s) (placeM s (readM true s.data.toList)) := by
  unfold relation_Read.f
  exact Ev.bind (read_ev s hb true) (Ev.now _)
end Go.Proofs.YtmocooihkobdjaaDoor.Model
end
section
set_option linter.unusedVariables false
set_option linter.unusedSimpArgs false
namespace Go.Proofs.YtmocooihkobdjaaDoor.Model
open Go.RowKit Go.Proofs.YtmocooihkobdjaaDoor.G Go.Proofs.YtmocooihkobdjaaDoorW.PrintWords Go.Proofs.YtmocooihkobdjaaDoorW.PrintLast Go.Proofs.YtmocooihkobdjaaDoor.Ver
theorem readlist_l0 (L : List (List S46)) (er p : Int) (hL : L.length ≤ 140737488351232) : ∀ (d i : Nat), i + d = L.length → ∀ acc : List S46, acc.length + (L.drop i).flatten.length < 3518437208883 → Ev (fun k => relation_ReadList.l0 k er p acc L (L.length : Int) (i : Int)) (acc ++ (L.drop i).flatten, er, p) := by
  intro d
  induction d with
  | zero =>
    intro i hi acc ha
    rw [List.drop_of_length_le (by omega), List.flatten_nil, List.append_nil]
    refine Ev.step (f := fun _ => some (acc, er, p)) (fun k => ?_) (Ev.now _)
    simp only [relation_ReadList.l0]
    rw [if_neg (by omega)]
  | succ d ih =>
    intro i hi acc ha
    have hi' : i < L.length := by omega
    have ew : wrap64 ((i : Int) + 1) = ((i + 1 : Nat) : Int) := by rw [wrap_id (by omega) (by omega)]; omega
    rw [drop_at hi', List.flatten_cons, List.length_append] at ha
    have hn := ih (i + 1) (by omega) (acc ++ L[i]) (by rw [List.length_append]; omega)
    rw [drop_at hi', List.flatten_cons, ← List.append_assoc]
    refine Ev.step (f := _) (fun k => ?_) hn
    simp only [relation_ReadList.l0, ew, rd_at hi', if_pos (show (i : Int) < L.length by omega), if_pos (show (0 : Int) ≤ i by omega), if_pos (show acc.length + L[i].length < 3518437208883 by omega)]
theorem ReadList_ev (s : ByteArray) (hb : s.size ≤ 3000000000000) : Ev (fun k => relation_ReadList.f k s) ((readM false s.data.toList).1.flatten, (placeM s (readM false s.data.toList)).2) := by
  unfold relation_ReadList.f
  refine Ev.bind (read_ev s hb false) ?_
  obtain ⟨b1, b2⟩ := readM_bd false s.data.toList
  have hz : s.data.toList.length = s.size := by simp
  have := readlist_l0 (readM false s.data.toList).1 (placeM s (readM false s.data.toList)).2.1 (placeM s (readM false s.data.toList)).2.2 (by omega) (readM false s.data.toList).1.length 0 (by omega) [] (by simp only [List.length_nil, List.drop_zero]; omega)
  simp only [List.drop_zero, List.nil_append] at this
  exact this
end Go.Proofs.YtmocooihkobdjaaDoor.Model
end
section
set_option linter.unusedVariables false
set_option linter.unusedSimpArgs false
namespace Go.Proofs.YtmocooihkobdjaaDoor.Model
open Go.RowKit Go.Proofs.YtmocooihkobdjaaDoor.G Go.Proofs.YtmocooihkobdjaaDoorW.PrintWords Go.Proofs.YtmocooihkobdjaaDoorW.PrintLast Go.Proofs.YtmocooihkobdjaaDoor.Ver
abbrev Q := List (List S46) × List S46 × List S48
def splitL : B → List B
  | [] => [[]]
  | c :: r => if c = 10 then [] :: splitL r else match splitL r with | [] => [[c]] | x :: xs => (c :: x) :: xs
theorem splitL_ne : ∀ l : B, splitL l ≠ []
  | [] => by simp [splitL]
  | c :: r => by
    unfold splitL
    split
    · simp
    · split <;> simp
theorem splitL_cons (c : UInt8) (r : B) (h : ¬ c = 10) : ∃ x xs, splitL r = x :: xs ∧ splitL (c :: r) = (c :: x) :: xs := by
  cases hs : splitL r with
  | nil => exact absurd hs (splitL_ne r)
  | cons x xs =>
    refine ⟨x, xs, rfl, ?_⟩
    rw [splitL, if_neg h, hs]
theorem splitK_eq : ∀ l : B, Lib.splitK [10] 0 (l.count 10) l = splitL l
  | [] => rfl
  | c :: r => by
    have ih := splitK_eq r
    by_cases hc : c = 10
    · subst hc
      have e : List.count (10 : UInt8) (10 :: r) = r.count 10 + 1 := by simp
      have ei : Lib.index ((10 : UInt8) :: r) [10] = 0 := by rw [Lib.index_one]; rfl
      rw [e, Lib.splitK, ei, if_neg (by decide), splitL, if_pos rfl, ← ih]
      simp
    · have e : List.count (10 : UInt8) (c :: r) = r.count 10 := by rw [List.count_cons_of_ne]; exact hc
      obtain ⟨x, xs, h1, h2⟩ := splitL_cons c r hc
      rw [e, h2]
      have hge := Lib.indexByte_ge r 10
      have ei : Lib.index (c :: r) [10] = if Lib.indexByte r 10 == -1 then -1 else Lib.indexByte r 10 + 1 := by
        rw [Lib.index_one, Lib.indexByte, if_neg (by simpa using hc)]
      cases hn : r.count 10 with
      | zero =>
        rw [hn] at ih
        rw [Lib.splitK] at ih ⊢
        rw [h1] at ih
        injection ih with e1 e2
        rw [e1, ← e2]
      | succ n =>
        rw [hn] at ih
        rw [Lib.splitK, Lib.index_one] at ih
        rw [Lib.splitK, ei]
        by_cases hm : (Lib.indexByte r 10 == -1) = true
        · rw [if_pos hm, h1] at ih
          rw [if_pos hm, if_pos (by decide)]
          injection ih with e1 e2
          rw [e1, ← e2]
        · rw [if_neg hm, h1] at ih
          have hm' : ¬ Lib.indexByte r 10 = -1 := fun q => hm (by rw [q]; rfl)
          rw [if_neg hm, if_neg (by simp; omega)]
          obtain ⟨i, hi⟩ : ∃ i : Nat, Lib.indexByte r 10 = (i : Int) := ⟨(Lib.indexByte r 10).toNat, by omega⟩
          rw [hi] at ih ⊢
          have e3 : ((i : Int) + 1).toNat = i + 1 := by omega
          rw [e3]
          simp only [Int.toNat_natCast, Nat.add_zero, List.take_succ_cons, List.length_cons, List.length_nil, Nat.zero_add, List.drop_succ_cons] at ih ⊢
          injection ih with e1 e2
          rw [e1, e2]
theorem split_map (s : ByteArray) : (Lib.splitB ⟨#[10]⟩ 0 (Lib.countB s ⟨#[10]⟩) s).map (·.data.toList) = splitL s.data.toList := by
  rw [Lib.splitB_data]
  have e : Lib.countB s ⟨#[10]⟩ = s.data.toList.count 10 := Lib.count_one 10 s.data.toList
  rw [e]
  exact splitK_eq s.data.toList
def blk (c : UInt8) : Bool := c == 32 || c == 9
theorem blk_eq (c : UInt8) : ([32, 9] : B).contains c = blk c := by
  simp only [List.contains, List.elem, blk]
  cases (c == 32) <;> cases (c == 9) <;> rfl
def trimM (l : B) : B := Lib.trimS l [32, 9]
def idleM (t : B) : Bool := match t with | [] => true | c :: _ => c == 35
def wordM (t : B) : B := t.takeWhile (fun c => !blk c)
def restM (t : B) : B := t.dropWhile (fun c => !blk c)
def wInstall : B := [105, 110, 115, 116, 97, 108, 108]
def wForbid : B := [102, 111, 114, 98, 105, 100]
def wPrefer : B := [112, 114, 101, 102, 101, 114]
def wAvoid : B := [97, 118, 111, 105, 100]
def wishL (b : Bool) (x : List S46) : List S48 := x.map fun r => ⟨b, r⟩
def stepM (t : B) (q : Q) : Q × Int :=
  if restM t = [] then (q, 240)
  else if wordM t = wInstall then ((q.1 ++ (readM true (restM t)).1, q.2.1, q.2.2), (readM true (restM t)).2.1)
  else if wordM t = wForbid then ((q.1, q.2.1 ++ (readM false (restM t)).1.flatten, q.2.2), (readM false (restM t)).2.1)
  else if wordM t = wPrefer then ((q.1, q.2.1, q.2.2 ++ wishL false (readM false (restM t)).1.flatten), (readM false (restM t)).2.1)
  else if wordM t = wAvoid then ((q.1, q.2.1, q.2.2 ++ wishL true (readM false (restM t)).1.flatten), (readM false (restM t)).2.1)
  else (q, 240)
def linesM : List B → Nat → Q → List (List S46) × List S46 × List S48 × Int × Int
  | [], _, q => (q.1, q.2.1, q.2.2, 0, 0)
  | l :: ls, i, q => if idleM (trimM l) = true then linesM ls (i + 1) q else if (stepM (trimM l) q).2 = 0 then linesM ls (i + 1) (stepM (trimM l) q).1 else ([], [], [], (stepM (trimM l) q).2, ((i + 1 : Nat) : Int))
def reqM (l : B) : List (List S46) × List S46 × List S48 × Int × Int := linesM (splitL l) 0 ([], [], [])
theorem dw_le (p : UInt8 → Bool) (l : B) : (l.dropWhile p).length ≤ l.length := (List.dropWhile_sublist _).length_le
theorem trim_le (l : B) : (trimM l).length ≤ l.length := by
  unfold trimM Lib.trimS Lib.trimLeftS Lib.trimRightS
  have h1 := dw_le ([32, 9].contains ·) (l.reverse.dropWhile ([32, 9].contains ·)).reverse
  have h2 := dw_le ([32, 9].contains ·) l.reverse
  rw [List.length_reverse] at h1 h2
  omega
theorem any_blk : ∀ t : B, Lib.indexAny t [32, 9] = if restM t = [] then -1 else ((wordM t).length : Int)
  | [] => rfl
  | c :: r => by
    have ih := any_blk r
    rw [Lib.indexAny, blk_eq, ih]
    unfold restM wordM
    cases hb : blk c with
    | true => simp [hb]
    | false =>
      have e1 : List.dropWhile (fun c => !blk c) (c :: r) = List.dropWhile (fun c => !blk c) r := by rw [List.dropWhile_cons_of_pos]; simp [hb]
      have e2 : List.takeWhile (fun c => !blk c) (c :: r) = c :: List.takeWhile (fun c => !blk c) r := by rw [List.takeWhile_cons_of_pos]; simp [hb]
      rw [e1, e2, if_neg (by decide)]
      by_cases h : List.dropWhile (fun c => !blk c) r = []
      · rw [if_pos h, if_pos h]
        rfl
      · rw [if_neg h, if_neg h, if_neg (by rw [beq_iff_eq]; omega), List.length_cons]
        omega
theorem wd_rest (t : B) : wordM t ++ restM t = t := List.takeWhile_append_dropWhile
theorem rest_le (t : B) : (restM t).length ≤ t.length := dw_le _ _
def szQ (q : Q) : Nat := q.1.length + q.2.1.length + q.2.2.length
theorem step_sz (t : B) (q : Q) : szQ (stepM t q).1 ≤ szQ q + t.length := by
  have hr := rest_le t
  obtain ⟨a1, a2⟩ := readM_bd true (restM t)
  obtain ⟨b1, b2⟩ := readM_bd false (restM t)
  unfold stepM szQ
  split
  · simp
  split
  · simp only [List.length_append]; omega
  split
  · simp only [List.length_append]; omega
  split
  · simp only [List.length_append, wishL, List.length_map]; omega
  split
  · simp only [List.length_append, wishL, List.length_map]; omega
  · simp
theorem pstep_ev (t : ByteArray) (q : Q) (hb : t.size ≤ 1000000000) (hq : szQ q ≤ 1000000000) : Ev (fun k => request_Read.step k t q) (stepM t.data.toList q) := by
  obtain ⟨l, rfl⟩ : ∃ l, t = ofL l := ⟨t.data.toList, (ofL_toL t).symm⟩
  rw [ofL_size] at hb
  have hla := any_blk l
  have hsz : (ofL l).size = l.length := ofL_size l
  have hwr := congrArg List.length (wd_rest l)
  rw [List.length_append] at hwr
  unfold request_Read.step
  simp only [toL_ofL, hla]
  unfold stepM
  by_cases h0 : restM l = []
  · simp only [if_pos h0]
    exact Ev.now _
  · simp only [if_neg h0]
    have e1 : (ofL l).extract 0 ((wordM l).length : Int).toNat = ofL (wordM l) := by
      have := ext_at (ofL l) 0 (wordM l).length
      simp only [at_zero, toL_ofL, Nat.sub_zero, Int.toNat_natCast, Int.toNat_zero, Int.natCast_zero] at this ⊢
      rw [this]
      congr 1
      exact take_tw _ _
    have e2 : (ofL l).extract ((wordM l).length : Int).toNat (ofL l).size = ofL (restM l) := by
      have := ext_at (ofL l) (wordM l).length (ofL l).size
      simp only [Int.toNat_natCast] at this ⊢
      rw [this]
      congr 1
      have e3 : at_ (ofL l) (wordM l).length = restM l := by
        unfold at_
        rw [toL_ofL]
        have h9 := List.drop_left (l₁ := wordM l) (l₂ := restM l)
        rw [wd_rest] at h9
        exact h9
      rw [e3, hsz]
      exact List.take_of_length_le (by omega)
    simp only [e1, e2, if_neg (show ¬ ((wordM l).length : Int) < 0 by omega)]
    have eqv : ∀ m : B, (ofL (wordM l) = ⟨m.toArray⟩) ↔ wordM l = m := by
      intro m
      constructor
      · intro h
        have := congrArg (fun x => x.data.toList) h
        simpa [ofL] using this
      · intro h; rw [h]; rfl
    have i1 := eqv wInstall
    have i2 := eqv wForbid
    have i3 := eqv wPrefer
    have i4 := eqv wAvoid
    have hrl : (ofL (restM l)).size ≤ 3000000000000 := by rw [ofL_size]; omega
    have hR := Read_ev (ofL (restM l)) hrl
    have hF := ReadList_ev (ofL (restM l)) hrl
    rw [toL_ofL] at hR hF
    obtain ⟨p1, hR⟩ : ∃ p1, Ev (fun k => relation_Read.f k (ofL (restM l))) ((readM true (restM l)).1, (readM true (restM l)).2.1, p1) := ⟨_, hR⟩
    obtain ⟨p2, hF⟩ : ∃ p2, Ev (fun k => relation_ReadList.f k (ofL (restM l))) ((readM false (restM l)).1.flatten, (readM false (restM l)).2.1, p2) := ⟨_, hF⟩
    obtain ⟨a1, a2⟩ := readM_bd true (restM l)
    obtain ⟨b1, b2⟩ := readM_bd false (restM l)
    unfold szQ at hq
    have er1 := readM_err true (restM l)
    have er2 := readM_err false (restM l)
    have c1 : (ofL (wordM l) = ⟨#[105, 110, 115, 116, 97, 108, 108]⟩) ↔ wordM l = wInstall := i1
    have c2 : (ofL (wordM l) = ⟨#[102, 111, 114, 98, 105, 100]⟩) ↔ wordM l = wForbid := i2
    have c3 : (ofL (wordM l) = ⟨#[112, 114, 101, 102, 101, 114]⟩) ↔ wordM l = wPrefer := i3
    have c4 : (ofL (wordM l) = ⟨#[97, 118, 111, 105, 100]⟩) ↔ wordM l = wAvoid := i4
    simp only [c1, c2, c3, c4]
    by_cases k1 : wordM l = wInstall
    · simp only [if_pos k1]
      refine Ev.bind hR ?_
      by_cases h : (readM true (restM l)).2.1 = 0
      · simp only [if_pos h, h]
        simp only [if_pos (show (q.1.length + (readM true (restM l)).1.length) * 24 ≤ 140737488355328 by omega)]
        exact Ev.now _
      · simp only [if_neg h]
        rw [er1 h, List.append_nil]
        exact Ev.now _
    simp only [if_neg k1]
    by_cases k2 : wordM l = wForbid
    · simp only [if_pos k2]
      refine Ev.bind hF ?_
      by_cases h : (readM false (restM l)).2.1 = 0
      · simp only [if_pos h, h]
        simp only [if_pos (show (q.2.1.length + (readM false (restM l)).1.flatten.length) * 40 ≤ 140737488355328 by omega)]
        exact Ev.now _
      · simp only [if_neg h]
        rw [er2 h, List.flatten_nil, List.append_nil]
        exact Ev.now _
    simp only [if_neg k2]
    by_cases k3 : wordM l = wPrefer
    · simp only [if_pos k3]
      refine Ev.bind hF ?_
      by_cases h : (readM false (restM l)).2.1 = 0
      · simp only [if_pos h, h]
        simp only [if_pos (show (q.2.2.length + (readM false (restM l)).1.flatten.length) * 48 ≤ 140737488355328 by omega)]
        exact Ev.now _
      · simp only [if_neg h]
        rw [er2 h, List.flatten_nil]
        unfold wishL
        rw [List.map_nil, List.append_nil]
        exact Ev.now _
    simp only [if_neg k3]
    by_cases k4 : wordM l = wAvoid
    · simp only [if_pos k4]
      refine Ev.bind hF ?_
      by_cases h : (readM false (restM l)).2.1 = 0
      · simp only [if_pos h, h]
        simp only [if_pos (show (q.2.2.length + (readM false (restM l)).1.flatten.length) * 48 ≤ 140737488355328 by omega)]
        exact Ev.now _
      · simp only [if_neg h]
        rw [er2 h, List.flatten_nil]
        unfold wishL
        rw [List.map_nil, List.append_nil]
        exact Ev.now _
    simp only [if_neg k4]
    exact Ev.now _
theorem idle_eq (t : ByteArray) : request_Read.idle t = idleM t.data.toList := by
  unfold request_Read.idle idleM
  cases t.data.toList <;> rfl
theorem ptrim (l : ByteArray) : request_Read.trim l = ofL (trimM l.data.toList) := rfl
theorem plines_ev : ∀ (ls : List ByteArray) (i : Nat) (q : Q), szQ q + ((ls.map (·.size)).sum) ≤ 1000000000 → Ev (fun k => request_Read.lines k ls i q) (linesM (ls.map (·.data.toList)) i q)
  | [], i, q, _ => Ev.now _
  | l :: ls, i, q, h => by
    rw [List.map_cons, List.sum_cons] at h
    have ht := trim_le l.data.toList
    have hl : l.data.toList.length = l.size := by simp
    have hz : (request_Read.trim l).size = (trimM l.data.toList).length := by rw [ptrim, ofL_size]
    simp only [request_Read.lines, List.map_cons, linesM]
    simp only [if_pos (show l.size < 4294967281 ∧ (request_Read.trim l).size < 4294967281 by rw [hz]; omega)]
    have hid : request_Read.idle (request_Read.trim l) = idleM (trimM l.data.toList) := by rw [idle_eq, ptrim, toL_ofL]
    rw [hid]
    by_cases hi : idleM (trimM l.data.toList) = true
    · simp only [if_pos hi]
      exact plines_ev ls (i + 1) q (by omega)
    · simp only [if_neg hi]
      have hs := pstep_ev (request_Read.trim l) q (by omega) (by omega)
      rw [ptrim, toL_ofL] at hs
      have hsz := step_sz (trimM l.data.toList) q
      refine Ev.bind hs ?_
      by_cases he : (stepM (trimM l.data.toList) q).2 = 0
      · simp only [if_pos he]
        exact plines_ev ls (i + 1) _ (by omega)
      · simp only [if_neg he]
        exact Ev.now _
theorem split_sum : ∀ l : B, ((splitL l).map List.length).sum ≤ l.length
  | [] => by simp [splitL]
  | c :: r => by
    have ih := split_sum r
    by_cases hc : c = 10
    · rw [splitL, if_pos hc]
      simp only [List.map_cons, List.length_nil, List.sum_cons, List.length_cons]
      omega
    · obtain ⟨x, xs, h1, h2⟩ := splitL_cons c r hc
      rw [h1] at ih
      rw [h2]
      simp only [List.map_cons, List.sum_cons, List.length_cons] at ih ⊢
      omega
theorem Req_ev (s : ByteArray) (hb : s.size ≤ 1000000000) : Ev (fun k => request_Read.f k s) (reqM s.data.toList) := by
  unfold request_Read.f reqM
  simp only [if_pos (show s.size < 4294967281 by omega)]
  rw [← split_map s]
  refine plines_ev _ 0 ([], [], []) ?_
  have h1 := split_sum s.data.toList
  rw [← split_map s, List.map_map] at h1
  have h2 : s.data.toList.length = s.size := by simp
  have h3 : (List.length ∘ fun x : ByteArray => x.data.toList) = (·.size) := by
    funext x
    show x.data.toList.length = x.size
    simp
  rw [h3] at h1
  simp only [szQ, List.length_nil]
  omega
end Go.Proofs.YtmocooihkobdjaaDoor.Model
end
section
set_option linter.unusedVariables false
set_option linter.unusedSimpArgs false
namespace Go.Proofs.YtmocooihkobdjaaDoor.Model
open Go.RowKit Go.Proofs.YtmocooihkobdjaaDoor.G Go.Proofs.YtmocooihkobdjaaDoorW.PrintWords Go.Proofs.YtmocooihkobdjaaDoorW.PrintLast Go.Proofs.YtmocooihkobdjaaDoor.Ver
theorem trimR_neg {c : UInt8} (l : B) (h : blk c = false) : Lib.trimRightS (c :: l) [32, 9] = c :: Lib.trimRightS l [32, 9] := by
  unfold Lib.trimRightS
  rw [List.reverse_cons, List.dropWhile_append]
  cases hd : List.dropWhile (fun x => ([32, 9] : B).contains x) l.reverse with
  | nil =>
    simp only [List.isEmpty_nil, if_true, List.reverse_nil]
    rw [List.dropWhile_cons_of_neg (by rw [blk_eq, h]; decide)]
    rfl
  | cons x xs =>
    simp
theorem trim_neg {c : UInt8} (l : B) (h : blk c = false) : trimM (c :: l) = Lib.trimRightS (c :: l) [32, 9] := by
  unfold trimM Lib.trimS
  rw [trimR_neg l h]
  unfold Lib.trimLeftS
  rw [List.dropWhile_cons_of_neg (by rw [blk_eq, h]; decide)]
theorem trimR_snoc (l : B) (c : UInt8) : Lib.trimRightS (l ++ [c]) [32, 9] = if blk c = true then Lib.trimRightS l [32, 9] else l ++ [c] := by
  unfold Lib.trimRightS
  rw [List.reverse_append, List.reverse_singleton, List.singleton_append]
  split
  · rename_i h
    rw [List.dropWhile_cons_of_pos (by rw [blk_eq]; exact h)]
  · rename_i h
    rw [List.dropWhile_cons_of_neg (by rw [blk_eq]; exact h)]
    simp
def Ends (l : B) : Prop := ∃ r c, l = r ++ [c] ∧ blk c = false
theorem Ends.app {b : B} (h : Ends b) (a : B) : Ends (a ++ b) := by
  obtain ⟨r, c, rfl, hc⟩ := h
  exact ⟨a ++ r, c, by rw [List.append_assoc], hc⟩
theorem trim_id {c : UInt8} {l : B} (h : blk c = false) (he : Ends (c :: l)) : trimM (c :: l) = c :: l := by
  rw [trim_neg l h]
  obtain ⟨r, d, e, hd⟩ := he
  rw [e, trimR_snoc, if_neg (by rw [hd]; decide)]
end Go.Proofs.YtmocooihkobdjaaDoor.Model
end
section
set_option linter.unusedVariables false
set_option linter.unusedSimpArgs false
namespace Go.Proofs.YtmocooihkobdjaaDoor.Model
open Go.RowKit Go.Proofs.YtmocooihkobdjaaDoor.G Go.Proofs.YtmocooihkobdjaaDoorW.PrintWords Go.Proofs.YtmocooihkobdjaaDoorW.PrintLast Go.Proofs.YtmocooihkobdjaaDoor.Ver
theorem listsM_more (bars : Bool) : ∀ (d e : Nat) (x8 : List (List S46)) (x10 : List S46) (l : B), l.length < d → l.length < e → listsM bars d x8 x10 l = listsM bars e x8 x10 l := by
  intro d
  induction d with
  | zero => intro e x8 x10 l h; omega
  | succ d ih =>
    intro e x8 x10 l h1 h2
    obtain ⟨e, rfl⟩ : ∃ m, e = m + 1 := ⟨e - 1, by omega⟩
    rw [listsM, listsM]
    cases hR : relM l with
    | mk q r =>
    cases q with
    | inl er => rfl
    | inr x =>
      obtain ⟨f1, f2, f3, f4⟩ := relM_inr hR
      cases r with
      | nil => rfl
      | cons c r =>
        have hg := dg_le r
        simp only [List.length_cons] at f3
        simp only
        split
        · exact ih _ _ _ _ (by omega) (by omega)
        · split
          · exact ih _ _ _ _ (by omega) (by omega)
          · rfl
def listsF (bars : Bool) (x8 : List (List S46)) (x10 : List S46) (l : B) : List (List S46) × Int × B := listsM bars (l.length + 1) x8 x10 l
theorem listsF_eq (bars : Bool) (x8 : List (List S46)) (x10 : List S46) (l : B) : listsF bars x8 x10 l = match relM l with
    | (.inl e, r) => ([], e, r)
    | (.inr x, []) => (x8 ++ [x10 ++ [x]], 0, [])
    | (.inr x, c :: r) => if c = 124 ∧ bars = true then listsF bars x8 (x10 ++ [x]) (dg r) else if c = 44 then listsF bars (x8 ++ [x10 ++ [x]]) [] (dg r) else ([], 220, c :: r) := by
  unfold listsF
  rw [listsM]
  cases hR : relM l with
  | mk q r =>
  cases q with
  | inl er => rfl
  | inr x =>
    obtain ⟨f1, f2, f3, f4⟩ := relM_inr hR
    cases r with
    | nil => rfl
    | cons c r =>
      have hg := dg_le r
      simp only [List.length_cons] at f3
      simp only
      split
      · exact listsM_more _ _ _ _ _ _ (by omega) (by omega)
      · split
        · exact listsM_more _ _ _ _ _ _ (by omega) (by omega)
        · rfl
theorem readM_eq (bars : Bool) (l : B) : readM bars l = if dg l = [] then ([], 0, []) else listsF bars [] [] (dg l) := rfl
def bareM : Bool → B → B → B
  | _, _, [] => []
  | b, p, c :: l => if gapB c = true then bareM b (p ++ [c]) l else if (b || sgnB c) = true then c :: bareM (sgnB c) [] l else p ++ c :: bareM (sgnB c) [] l
def N (l : B) : B := bareM true [] l
theorem wrd_no {c : UInt8} (h : wrdB c = true) : gapB c = false ∧ sgnB c = false := by
  unfold wrdB at h
  simpa using h
theorem mrk_wrd {c : UInt8} (h : mrkB c = true) : wrdB c = true := by
  exact byte_all (P := fun c => mrkB c = true → wrdB c = true) (by decide +kernel) c h
theorem bare_true (l : B) : ∀ p q, bareM true p l = bareM true q l := by
  induction l with
  | nil => intro p q; rfl
  | cons c l ih =>
    intro p q
    rw [bareM, bareM]
    split
    · exact ih _ _
    · rfl
theorem bare_pre (g : B) (hg : ∀ x ∈ g, gapB x = true) (b : Bool) (l : B) : ∀ p, bareM b p (g ++ l) = bareM b (p ++ g) l := by
  induction g with
  | nil => intro p; simp
  | cons c g ih =>
    intro p
    rw [List.cons_append, bareM, if_pos (hg c (List.mem_cons_self ..)), ih (fun x hx => hg x (List.mem_cons_of_mem _ hx))]
    simp
theorem dg_split (l : B) : l = l.takeWhile gapB ++ dg l ∧ ∀ x ∈ l.takeWhile gapB, gapB x = true :=
  ⟨(List.takeWhile_append_dropWhile (p := gapB) (l := l)).symm, fun x hx => by
    have := List.all_takeWhile (p := gapB) (l := l)
    exact List.all_eq_true.1 this x hx⟩
theorem dg_head {l r : B} {c : UInt8} (h : dg l = c :: r) : gapB c = false := by
  unfold dg at h
  induction l with
  | nil => simp at h
  | cons x l ih =>
    rw [List.dropWhile_cons] at h
    split at h
    · exact ih h
    · rename_i hx
      injection h with h1 h2
      rw [← h1]
      simpa using hx
theorem dg_cons {c : UInt8} (h : gapB c = false) (l : B) : dg (c :: l) = c :: l := by
  unfold dg
  rw [List.dropWhile_cons, if_neg (by simp [h])]
theorem N_dg (l : B) : N l = N (dg l) := by
  obtain ⟨h1, h2⟩ := dg_split l
  conv => lhs; rw [h1]
  unfold N
  rw [bare_pre _ h2]
  exact bare_true _ _ _
theorem N_cons {c : UInt8} (h : gapB c = false) (l : B) : N (c :: l) = c :: bareM (sgnB c) [] l := by
  unfold N
  rw [bareM, if_neg (by simp [h])]
  simp
theorem N_nil (l : B) : N l = [] ↔ dg l = [] := by
  rw [N_dg]
  cases hd : dg l with
  | nil => exact ⟨fun _ => rfl, fun _ => rfl⟩
  | cons c r =>
    rw [N_cons (dg_head hd)]
    exact ⟨fun h => by simp at h, fun h => by simp at h⟩
def Stops (l : B) : Prop := ∀ c r, l = c :: r → wrdB c = false
theorem stops_nil : Stops [] := fun c r h => by simp at h
theorem stops_cons {c : UInt8} {l : B} (h : wrdB c = false) : Stops (c :: l) := fun d r e => by
  injection e with e1 e2
  rw [← e1]; exact h
theorem tw_stops {p : UInt8 → Bool} {w l : B} (hw : ∀ x ∈ w, p x = true) (hl : ∀ c r, l = c :: r → p c = false) : (w ++ l).takeWhile p = w ∧ (w ++ l).dropWhile p = l := by
  induction w with
  | nil =>
    cases l with
    | nil => exact ⟨rfl, rfl⟩
    | cons c r =>
      have := hl c r rfl
      simp [List.takeWhile_cons, List.dropWhile_cons, this]
  | cons c w ih =>
    obtain ⟨h1, h2⟩ := ih (fun x hx => hw x (List.mem_cons_of_mem _ hx))
    have hc := hw c (List.mem_cons_self ..)
    simp [List.takeWhile_cons, List.dropWhile_cons, hc, h1, h2]
end Go.Proofs.YtmocooihkobdjaaDoor.Model
end
section
set_option linter.unusedVariables false
set_option linter.unusedSimpArgs false
namespace Go.Proofs.YtmocooihkobdjaaDoor.Ver
open Go.RowKit Go.Proofs.YtmocooihkobdjaaDoor.G Go.Proofs.YtmocooihkobdjaaDoorW.PrintWords Go.Proofs.YtmocooihkobdjaaDoorW.PrintLast
def allFrom (p : Int → Bool) (s : ByteArray) : Nat → Nat → Bool
  | 0, _ => true
  | d + 1, i => p (bt s i) && allFrom p s d (i + 1)
theorem allFrom_iff (p : Int → Bool) (s : ByteArray) : ∀ d i, allFrom p s d i = true ↔ ∀ j, i ≤ j → j < i + d → p (bt s j) = true := by
  intro d
  induction d with
  | zero =>
    intro i
    exact ⟨fun _ j h1 h2 => by omega, fun _ => rfl⟩
  | succ d ih =>
    intro i
    rw [allFrom, Bool.and_eq_true, ih (i + 1)]
    constructor
    · rintro ⟨h0, h1⟩ j hj1 hj2
      by_cases e : j = i
      · subst e; exact h0
      · exact h1 j (by omega) (by omega)
    · intro h
      exact ⟨h i (Nat.le_refl _) (by omega), fun j h1 h2 => h j (by omega) (by omega)⟩
theorem allFrom_runes (p : Int → Bool) (s : ByteArray) (hp : ∀ c : Int, 128 ≤ c → p c = false) : runesAll (fun c : Nat => p (c : Int)) s s.size 0 = allFrom p s s.size 0 := by
  rw [Bool.eq_iff_iff, runesAll_bytes _ (fun c h => hp _ (by omega)) s s.size 0 (by omega), allFrom_iff]
  constructor
  · intro h j _ hj
    have hj' : j < s.size := by omega
    rw [bt_eq s j hj']
    exact h j hj' (Nat.zero_le _)
  · intro h j hj _
    have := h j (Nat.zero_le _) (by omega)
    rwa [bt_eq s j hj] at this
def refUp (colon : Bool) (c : Int) : Bool := ltr c || (dgt c || (decide (c = 46) || (decide (c = 43) || (decide (c = 45) || (decide (c = 126) || (decide (c = 58) && colon))))))
def refRev (c : Int) : Bool := ltr c || (dgt c || (decide (c = 46) || (decide (c = 43) || decide (c = 126))))
theorem dgt_high (c : Int) (h : 128 ≤ c) : dgt c = false := by unfold dgt; exact decide_eq_false (by omega)
theorem ltr_high (c : Int) (h : 128 ≤ c) : ltr c = false := by
  unfold ltr
  rw [decide_eq_false (by omega), decide_eq_false (by omega)]
  rfl
theorem hasR_none (c : Int) : hasR emptyB c = false := rfl
theorem hasR_four (c : Int) : hasR ⟨#[46, 43, 45, 126]⟩ c = (decide (c = 46) || (decide (c = 43) || (decide (c = 45) || decide (c = 126)))) := by
  have h : hasR ⟨#[46, 43, 45, 126]⟩ c = !(decide (((46 : Nat) : Int) ≠ c) && (decide (((43 : Nat) : Int) ≠ c) && (decide (((45 : Nat) : Int) ≠ c) && (decide (((126 : Nat) : Int) ≠ c) && true)))) := rfl
  rw [h, Bool.eq_iff_iff]
  simp
  omega
theorem hasR_five (c : Int) : hasR ⟨#[46, 43, 45, 126, 58]⟩ c = (decide (c = 46) || (decide (c = 43) || (decide (c = 45) || (decide (c = 126) || decide (c = 58))))) := by
  have h : hasR ⟨#[46, 43, 45, 126, 58]⟩ c = !(decide (((46 : Nat) : Int) ≠ c) && (decide (((43 : Nat) : Int) ≠ c) && (decide (((45 : Nat) : Int) ≠ c) && (decide (((126 : Nat) : Int) ≠ c) && (decide (((58 : Nat) : Int) ≠ c) && true))))) := rfl
  rw [h, Bool.eq_iff_iff]
  simp
  omega
theorem hasR_three (c : Int) : hasR ⟨#[43, 46, 126]⟩ c = (decide (c = 43) || (decide (c = 46) || decide (c = 126))) := by
  have h : hasR ⟨#[43, 46, 126]⟩ c = !(decide (((43 : Nat) : Int) ≠ c) && (decide (((46 : Nat) : Int) ≠ c) && (decide (((126 : Nat) : Int) ≠ c) && true))) := rfl
  rw [h, Bool.eq_iff_iff]
  simp
  omega
theorem made_epoch : madeP false emptyB = fun c : Nat => dgt (c : Int) := by
  funext c
  unfold madeP
  rw [hasR_none]
  simp
theorem made_up (colon : Bool) : madeP true (othersOf colon) = fun c : Nat => refUp colon (c : Int) := by
  funext c
  unfold madeP refUp othersOf
  cases colon
  · simp only [Bool.false_eq_true, if_false]
    rw [hasR_four, Bool.eq_iff_iff]
    simp
    constructor
    · rintro ((h | h) | ⟨_, h⟩)
      · exact .inr (.inl h)
      · exact .inl h
      · exact .inr (.inr (by omega))
    · rintro (h | h | h)
      · exact .inl (.inr h)
      · exact .inl (.inl h)
      · exact .inr ⟨by omega, by omega⟩
  · simp only [if_true]
    rw [hasR_five, Bool.eq_iff_iff]
    simp
    constructor
    · rintro ((h | h) | ⟨_, h⟩)
      · exact .inr (.inl h)
      · exact .inl h
      · exact .inr (.inr (by omega))
    · rintro (h | h | h)
      · exact .inl (.inr h)
      · exact .inl (.inl h)
      · exact .inr ⟨by omega, by omega⟩
theorem made_rev : madeP true ⟨#[43, 46, 126]⟩ = fun c : Nat => refRev (c : Int) := by
  funext c
  unfold madeP refRev
  rw [hasR_three, Bool.eq_iff_iff]
  simp
  constructor
  · rintro ((h | h) | ⟨_, h⟩)
    · exact .inr (.inl h)
    · exact .inl h
    · exact .inr (.inr (by omega))
  · rintro (h | h | h)
    · exact .inl (.inr h)
    · exact .inl (.inl h)
    · exact .inr ⟨by omega, by omega⟩
theorem refUp_high (b : Bool) (c : Int) (h : 128 ≤ c) : refUp b c = false := by
  unfold refUp
  rw [dgt_high c h, ltr_high c h, decide_eq_false (by omega), decide_eq_false (by omega), decide_eq_false (by omega), decide_eq_false (by omega), decide_eq_false (by omega)]
  rfl
theorem refRev_high (c : Int) (h : 128 ≤ c) : refRev c = false := by
  unfold refRev
  rw [dgt_high c h, ltr_high c h, decide_eq_false (by omega), decide_eq_false (by omega), decide_eq_false (by omega)]
  rfl
theorem okS_eq (s : ByteArray) : okS s = (ok1 (colonS s) (minusS s) (epochS s) (upS s) (revS s) && (allFrom dgt (epochS s) (epochS s).size 0 && (allFrom (refUp (colonS s)) (upS s) (upS s).size 0 && allFrom refRev (revS s) (revS s).size 0))) := by
  unfold okS fin
  simp only
  rw [made_epoch, made_up, made_rev, allFrom_runes dgt _ dgt_high, allFrom_runes (refUp _) _ (refUp_high _), allFrom_runes refRev _ refRev_high]
theorem sub_le (s : ByteArray) (i : Int) : (upR s i).size ≤ s.size ∧ (revR s i).size ≤ s.size ∧ (epochR s i).size ≤ s.size := by
  unfold upR revR epochR
  refine ⟨?_, ?_, ?_⟩
  all_goals
    split
    · simp; try omega
    · first | exact Nat.le_refl _ | exact Nat.zero_le _
theorem empty_of (s : ByteArray) : s.toList = [] ↔ s.size = 0 := by
  rw [Lib.toList_data]
  constructor
  · intro h
    have : s.data.toList.length = 0 := by rw [h]; rfl
    simpa using this
  · intro h
    exact List.eq_nil_of_length_eq_zero (by simpa using h)
end Go.Proofs.YtmocooihkobdjaaDoor.Ver
end
section
set_option linter.unusedVariables false
set_option linter.unusedSimpArgs false
namespace Go.Proofs.YtmocooihkobdjaaDoor.Model
open Go.RowKit Go.Proofs.YtmocooihkobdjaaDoor.G Go.Proofs.YtmocooihkobdjaaDoorW.PrintWords Go.Proofs.YtmocooihkobdjaaDoorW.PrintLast Go.Proofs.YtmocooihkobdjaaDoor.Ver
theorem name_wrd {l : B} (h : nameM l = true) : (∀ x ∈ l, wrdB x = true) ∧ l ≠ [] := by
  unfold nameM at h
  rw [Bool.and_eq_true, decide_eq_true_eq] at h
  refine ⟨?_, fun e => by rw [e] at h; exact absurd h.2 (by decide)⟩
  have key : ∀ (l : B) (f : Bool), nameL f l = true → ∀ x ∈ l, wrdB x = true := by
    intro l
    induction l with
    | nil => intro f _ x hx; cases hx
    | cons c l ih =>
      intro f hf x hx
      rw [nameL, Bool.and_eq_true] at hf
      rcases List.mem_cons.1 hx with q | q
      · rw [q]
        have hb := hf.1
        cases f with
        | true => exact byte_all (P := fun c => namB true c = true → wrdB c = true) (by decide +kernel) c hb
        | false => exact byte_all (P := fun c => namB false c = true → wrdB c = true) (by decide +kernel) c hb
      · exact ih false hf.2 x q
  exact key l true h.1
def Wd (s : ByteArray) (j : Nat) : Prop := ∀ h : j < s.size, wrdB (s[j]'h) = true
theorem wd_all {s : ByteArray} (h : ∀ j, j < s.size → Wd s j) : ∀ x ∈ s.data.toList, wrdB x = true := by
  intro x hx
  obtain ⟨j, hj, e⟩ := List.getElem_of_mem hx
  have hj' : j < s.size := by simpa using hj
  have := h j hj' hj'
  rw [← e]
  exact this
theorem ext_byte (s : ByteArray) (a b j : Nat) (h : a + j < b) (hb : b ≤ s.size) : ∃ (h1 : j < (s.extract a b).size) (h2 : a + j < s.size), (s.extract a b)[j]'h1 = s[a + j]'h2 := by
  have h1 : j < (s.extract a b).size := by rw [ByteArray.size_extract]; omega
  exact ⟨h1, by omega, by simp [ByteArray.getElem_extract]⟩
theorem dgt_wrd (c : UInt8) (h : dgt (c.toNat : Int) = true) : wrdB c = true := byte_all (P := fun c => dgt (c.toNat : Int) = true → wrdB c = true) (by decide +kernel) c h
theorem up_wrd (b : Bool) (c : UInt8) (h : refUp b (c.toNat : Int) = true) : wrdB c = true := by
  cases b with
  | true => exact byte_all (P := fun c => refUp true (c.toNat : Int) = true → wrdB c = true) (by decide +kernel) c h
  | false => exact byte_all (P := fun c => refUp false (c.toNat : Int) = true → wrdB c = true) (by decide +kernel) c h
theorem rev_wrd (c : UInt8) (h : refRev (c.toNat : Int) = true) : wrdB c = true := byte_all (P := fun c => refRev (c.toNat : Int) = true → wrdB c = true) (by decide +kernel) c h
theorem all_wd {p : Int → Bool} (hp : ∀ c : UInt8, p (c.toNat : Int) = true → wrdB c = true) {s : ByteArray} (h : allFrom p s s.size 0 = true) : ∀ j, j < s.size → Wd s j := by
  intro j hj h'
  have := (allFrom_iff p s s.size 0).1 h j (Nat.zero_le _) (by omega)
  rw [bt_eq s j hj] at this
  exact hp _ this
theorem lastN_byte (s : ByteArray) (c : Int) : ∀ n, n ≤ s.size → 0 ≤ lastN s c n → bt s (lastN s c n) = c := by
  intro n
  induction n with
  | zero => intro _ h; simp [lastN] at h
  | succ n ih =>
    intro hn h
    unfold lastN at h ⊢
    split
    · assumption
    · rename_i hne
      rw [if_neg hne] at h
      exact ih (by omega) h
theorem colon_byte (s : ByteArray) (h : 0 ≤ colonI s) : ∃ hc : (colonI s).toNat < s.size, s[(colonI s).toNat]'hc = 58 := by
  have hb := colon_bd s
  have hi : Lib.indexByte s.data.toList 58 = ((colonI s).toNat : Int) := by unfold colonI at *; omega
  have h1 := (Lib.indexByte_some hi).1
  have hc : (colonI s).toNat < s.size := by omega
  refine ⟨hc, ?_⟩
  have hl : (colonI s).toNat < s.data.toList.length := by simpa using hc
  rw [List.getElem?_eq_getElem hl] at h1
  exact Option.some.inj h1
theorem wd_cut {s : ByteArray} {m : Nat} (hm : m < s.size) (h0 : ∀ j, j < (s.extract 0 m).size → Wd (s.extract 0 m) j) (h1 : wrdB (s[m]'hm) = true) (h2 : ∀ j, j < (s.extract (m + 1) s.size).size → Wd (s.extract (m + 1) s.size) j) : ∀ j, j < s.size → Wd s j := by
  intro j hj h'
  by_cases e : j = m
  · subst e; exact h1
  · by_cases l : j < m
    · obtain ⟨a1, a2, a3⟩ := ext_byte s 0 m j (by omega) (by omega)
      have := h0 j a1 a1
      rw [a3] at this
      simpa using this
    · obtain ⟨a1, a2, a3⟩ := ext_byte s (m + 1) s.size (j - (m + 1)) (by omega) (Nat.le_refl _)
      have := h2 _ a1 a1
      rw [a3] at this
      have e : m + 1 + (j - (m + 1)) = j := by omega
      simpa [e] using this
theorem ver_wrd {s : ByteArray} (h : okS s = true) : (∀ x ∈ s.data.toList, wrdB x = true) ∧ s.data.toList ≠ [] := by
  rw [okS_eq, Bool.and_eq_true, Bool.and_eq_true, Bool.and_eq_true] at h
  obtain ⟨k1, k2, k3, k4⟩ := h
  have w2 := all_wd dgt_wrd k2
  have w3 := all_wd (up_wrd _) k3
  have w4 := all_wd rev_wrd k4
  have hbd := colon_bd s
  have mbd := minus_bd s
  have hbeh : ∀ j, j < (behindS s).size → Wd (behindS s) j := by
    unfold upS upR at w3
    unfold revS revR at w4
    by_cases hm : 0 ≤ minusI s
    · rw [if_pos hm] at w3 w4
      have hlt : (minusI s).toNat < (behindS s).size := by omega
      have hby : wrdB ((behindS s)[(minusI s).toNat]'hlt) = true := by
        have h1 : bt (behindS s) (minusI s) = 45 := lastN_byte (behindS s) 45 _ (Nat.le_refl _) hm
        have e : minusI s = ((minusI s).toNat : Int) := by omega
        rw [e, bt_eq _ _ hlt] at h1
        have : (behindS s)[(minusI s).toNat]'hlt = 45 := toNat_inj.1 (show _ = ((45 : UInt8).toNat : Int) from h1)
        rw [this]; decide
      have e2 : (minusI s + 1).toNat = (minusI s).toNat + 1 := by omega
      rw [e2] at w4
      exact wd_cut hlt w3 hby w4
    · rw [if_neg hm] at w3
      exact w3
  have hall : ∀ j, j < s.size → Wd s j := by
    unfold epochS epochR at w2
    unfold behindS restR at hbeh
    by_cases hc : 0 ≤ colonI s
    · rw [if_pos hc] at w2 hbeh
      obtain ⟨hlt, hby⟩ := colon_byte s hc
      have e2 : (colonI s + 1).toNat = (colonI s).toNat + 1 := by omega
      rw [e2] at hbeh
      exact wd_cut hlt w2 (by rw [hby]; decide) hbeh
    · rw [if_neg hc] at hbeh
      exact hbeh
  refine ⟨wd_all hall, fun e => ?_⟩
  have hz : s.size = 0 := by
    have : s.data.toList.length = 0 := by rw [e]; rfl
    simpa using this
  unfold ok1 at k1
  rw [Bool.and_eq_true, Bool.and_eq_true] at k1
  have hu := k1.1.2
  have h1 := (sub_le (behindS s) (minusI s)).1
  have h2 := behind_le s
  have : (upS s).size = 0 := by unfold upS; omega
  rw [(empty_of (upS s)).2 this] at hu
  exact absurd hu (by decide)
end Go.Proofs.YtmocooihkobdjaaDoor.Model
end
section
set_option linter.unusedVariables false
set_option linter.unusedSimpArgs false
namespace Go.Proofs.YtmocooihkobdjaaDoor.Model
open Go.RowKit Go.Proofs.YtmocooihkobdjaaDoor.G Go.Proofs.YtmocooihkobdjaaDoorW.PrintWords Go.Proofs.YtmocooihkobdjaaDoorW.PrintLast Go.Proofs.YtmocooihkobdjaaDoor.Ver
theorem ofL_id (s : ByteArray) (h : s.toList = []) : s = ⟨#[]⟩ := by
  have := (toL_nil s).1 h
  exact this
where
  toL_nil (s : ByteArray) : s.toList = [] ↔ s = ⟨#[]⟩ := by
    constructor
    · intro h
      have h2 := ofL_toL s
      rw [ByteArray.toList_eq] at h
      rw [h] at h2
      exact h2.symm
    · intro h
      rw [h, ByteArray.toList_eq]
theorem data_ne {s : ByteArray} (h : ¬ s.toList = []) : s.data.toList ≠ [] := by
  rwa [ByteArray.toList_eq] at h
theorem form_parts {x : S46} (h : formM x = true) : nameM x.f0.data.toList = true ∧ ((x.f1 = 0 ∧ x.f2 = ⟨#[]⟩) ∨ (¬ x.f1 = 0 ∧ ¬ (wordOf x.f1).toList = [] ∧ okS x.f2 = true)) := by
  unfold formM at h
  rw [Bool.and_eq_true] at h
  refine ⟨h.1, ?_⟩
  have h2 := h.2
  split at h2
  · rename_i h0
    exact .inl ⟨h0, ofL_id _ (by simpa using h2)⟩
  · rename_i h0
    split at h2
    · cases h2
    · rename_i h1
      exact .inr ⟨h0, h1, h2⟩
theorem op_word {z : Int} (h : ¬ (wordOf z).toList = []) : opOf (wordOf z) = z ∧ (∀ x ∈ (wordOf z).data.toList, mrkB x = true) ∧ (wordOf z).data.toList ≠ [] := by
  refine ⟨?_, ?_, data_ne h⟩
  · revert h
    unfold wordOf
    repeat' split
    all_goals first
      | (rename_i e; subst e; intro _; unfold opOf; simp [ByteArray.toList_eq]; done)
      | (intro h; exact absurd (by rw [ByteArray.toList_eq]) h)
  · revert h
    unfold wordOf
    repeat' split
    all_goals first
      | (intro _; decide)
      | (intro h; exact absurd (by rw [ByteArray.toList_eq]) h)
theorem wrd_gap {l : B} (h : ∀ x ∈ l, wrdB x = true) (hn : l ≠ []) (r : B) : dg (l ++ r) = l ++ r := by
  cases l with
  | nil => exact absurd rfl hn
  | cons c l => exact dg_cons (wrd_no (h c (List.mem_cons_self ..))).1 _
theorem rel_text {x : S46} (h : formM x = true) {X : B} (hX : Stops X) (hp : ∀ r, dg X ≠ 40 :: r) : relM (textM x ++ X) = (.inr x, dg X) := by
  obtain ⟨hn, hb⟩ := form_parts h
  obtain ⟨n1, n2⟩ := name_wrd hn
  unfold textM
  rcases hb with ⟨h1, h2⟩ | ⟨h1, h2, h3⟩
  · rw [if_pos h1]
    obtain ⟨t1, t2⟩ := tw_stops n1 hX
    unfold relM
    rw [t1, t2, if_neg n2, if_neg (by simp [hn])]
    unfold openM
    split
    · rename_i e
      rw [e, ofL_toL]
      rw [show x = ⟨x.f0, x.f1, x.f2⟩ from rfl, h1, h2]
    · rename_i c r e
      rw [if_neg (fun q => hp r (by rw [e, q])), e, ofL_toL]
      rw [show x = ⟨x.f0, x.f1, x.f2⟩ from rfl, h1, h2]
  · rw [if_neg h1]
    obtain ⟨o1, o2, o3⟩ := op_word h2
    obtain ⟨v1, v2⟩ := ver_wrd h3
    rw [List.append_assoc]
    have hs : Stops (([32, 40] ++ ((wordOf x.f1).data.toList ++ ([32] ++ (x.f2.data.toList ++ [41])))) ++ X) := stops_cons (by decide)
    obtain ⟨t1, t2⟩ := tw_stops n1 hs
    unfold relM
    rw [t1, t2, if_neg n2, if_neg (by simp [hn])]
    have e1 : dg (([32, 40] ++ ((wordOf x.f1).data.toList ++ ([32] ++ (x.f2.data.toList ++ [41])))) ++ X) = 40 :: ((wordOf x.f1).data.toList ++ (32 :: (x.f2.data.toList ++ (41 :: X)))) := by
      simp [dg, List.dropWhile_cons, gapB]
    rw [e1]
    simp only [openM, if_true]
    rw [wrd_gap (fun y hy => mrk_wrd (o2 y hy)) o3]
    obtain ⟨m1, m2⟩ := tw_stops (p := mrkB) o2 (l := 32 :: (x.f2.data.toList ++ (41 :: X))) (fun c r e => by
      injection e with e1 e2
      rw [← e1]; decide)
    unfold operM
    rw [m1, m2, ofL_toL, o1, if_neg h1]
    have e2 : dg (32 :: (x.f2.data.toList ++ (41 :: X))) = x.f2.data.toList ++ (41 :: X) := by
      rw [dg, List.dropWhile_cons, if_pos (by decide)]
      exact wrd_gap v1 v2 _
    rw [e2]
    obtain ⟨w1, w2⟩ := tw_stops v1 (stops_cons (c := 41) (l := X) (by decide))
    unfold versM
    rw [w1, w2, if_neg v2, ofL_toL, if_neg (by simp [h3]), dg_cons (by decide)]
    simp only [closeM, if_true, ofL_toL]
theorem text_ne {x : S46} (h : formM x = true) : ∃ c r, textM x = c :: r ∧ gapB c = false := by
  obtain ⟨hn, _⟩ := form_parts h
  obtain ⟨n1, n2⟩ := name_wrd hn
  cases hl : x.f0.data.toList with
  | nil => exact absurd hl n2
  | cons c r =>
    have hg := (wrd_no (n1 c (by rw [hl]; exact List.mem_cons_self ..))).1
    unfold textM
    rw [hl]
    split
    · exact ⟨c, r, rfl, hg⟩
    · exact ⟨c, _, rfl, hg⟩
theorem dg_text {x : S46} (h : formM x = true) (X : B) : dg (textM x ++ X) = textM x ++ X := by
  obtain ⟨c, r, e, hg⟩ := text_ne h
  rw [e]
  exact dg_cons hg _
theorem row_text (bars : Bool) (x8 : List (List S46)) (Y : B) (hY : Y = [] ∨ ∃ Z, Y = 44 :: 32 :: Z) : ∀ (m : List S46) (x : S46) (x10 : List S46), (∀ y ∈ x :: m, formM y = true) → (m = [] ∨ bars = true) →
    listsF bars x8 x10 (textM x ++ (Lib.joinTail [32, 124, 32] (m.map textM) ++ Y)) = (match Y with
      | [] => (x8 ++ [x10 ++ x :: m], 0, [])
      | _ :: Z => listsF bars (x8 ++ [x10 ++ x :: m]) [] (dg Z)) := by
  intro m
  induction m with
  | nil =>
    intro x x10 hf _
    have hx := hf x (List.mem_cons_self ..)
    simp only [List.map_nil, Lib.joinTail, List.flatten_nil, List.nil_append]
    rcases hY with rfl | ⟨Z, rfl⟩
    · rw [listsF_eq, rel_text hx stops_nil (by simp [dg])]
      simp [dg]
    · rw [listsF_eq, rel_text hx (stops_cons (by decide)) (by rw [dg_cons (by decide)]; simp), dg_cons (by decide)]
      simp only
      rw [if_neg (by simp), if_pos trivial]
  | cons y m ih =>
    intro x x10 hf hb
    have hbars : bars = true := hb.resolve_left (by simp)
    have hx := hf x (List.mem_cons_self ..)
    have hy := hf y (List.mem_cons_of_mem _ (List.mem_cons_self ..))
    rw [List.map_cons, joinTail_cons, List.append_assoc]
    have hst : Stops ([32, 124, 32] ++ ((textM y ++ Lib.joinTail [32, 124, 32] (m.map textM)) ++ Y)) := stops_cons (by decide)
    have e1 : dg ([32, 124, 32] ++ ((textM y ++ Lib.joinTail [32, 124, 32] (m.map textM)) ++ Y)) = 124 :: 32 :: ((textM y ++ Lib.joinTail [32, 124, 32] (m.map textM)) ++ Y) := by
      simp [dg, List.dropWhile_cons, gapB]
    have e2 : dg (32 :: ((textM y ++ Lib.joinTail [32, 124, 32] (m.map textM)) ++ Y)) = textM y ++ (Lib.joinTail [32, 124, 32] (m.map textM) ++ Y) := by
      rw [dg, List.dropWhile_cons, if_pos (by decide), List.append_assoc]
      exact dg_text hy _
    rw [listsF_eq, rel_text hx hst (by rw [e1]; simp), e1]
    simp only
    rw [if_pos ⟨trivial, hbars⟩, e2, ih y (x10 ++ [x]) (fun z hz => hf z (List.mem_cons_of_mem _ hz)) (.inr hbars)]
    simp
theorem rows_text (bars : Bool) : ∀ (L : List (List S46)) (m : List S46) (x8 : List (List S46)), okL (m :: L) = true → ((∀ r ∈ m :: L, r.length = 1) ∨ bars = true) →
    listsF bars x8 [] (rowT m ++ Lib.joinTail [44, 32] (L.map rowT)) = (x8 ++ m :: L, 0, []) := by
  intro L
  induction L with
  | nil =>
    intro m x8 h hb
    simp only [okL, List.all_cons, List.all_nil, Bool.and_true, Bool.and_eq_true] at h
    cases m with
    | nil => simp at h
    | cons x m =>
      have hf := List.all_eq_true.1 h.2
      have hm : m = [] ∨ bars = true := by
        rcases hb with hb | hb
        · have := hb (x :: m) (List.mem_cons_self ..)
          exact .inl (List.eq_nil_of_length_eq_zero (by simpa using this))
        · exact .inr hb
      have := row_text bars x8 [] (.inl rfl) m x [] hf hm
      rw [rowT_cons]
      simp only [List.map_nil, Lib.joinTail, List.flatten_nil, List.append_nil, List.nil_append] at this ⊢
      exact this
  | cons m' L ih =>
    intro m x8 h hb
    have h' : okL (m' :: L) = true := by
      unfold okL at h ⊢
      rw [List.all_cons, Bool.and_eq_true] at h
      exact h.2
    have hm0 : (!m.isEmpty && m.all formM) = true := by
      unfold okL at h
      rw [List.all_cons, Bool.and_eq_true] at h
      exact h.1
    rw [Bool.and_eq_true] at hm0
    cases m with
    | nil => simp at hm0
    | cons x m =>
      have hf := List.all_eq_true.1 hm0.2
      have hm : m = [] ∨ bars = true := by
        rcases hb with hb | hb
        · have := hb (x :: m) (List.mem_cons_self ..)
          exact .inl (List.eq_nil_of_length_eq_zero (by simpa using this))
        · exact .inr hb
      have hb' : (∀ r ∈ m' :: L, r.length = 1) ∨ bars = true := hb.imp_left (fun q r hr => q r (List.mem_cons_of_mem _ hr))
      rw [List.map_cons, joinTail_cons, rowT_cons, List.append_assoc]
      have := row_text bars x8 (44 :: 32 :: (rowT m' ++ Lib.joinTail [44, 32] (L.map rowT))) (.inr ⟨_, rfl⟩) m x [] hf hm
      simp only [List.nil_append] at this
      show listsF bars x8 [] (textM x ++ (Lib.joinTail [32, 124, 32] (m.map textM) ++ (44 :: 32 :: (rowT m' ++ Lib.joinTail [44, 32] (L.map rowT))))) = _
      rw [this]
      have e2 : dg (32 :: (rowT m' ++ Lib.joinTail [44, 32] (L.map rowT))) = rowT m' ++ Lib.joinTail [44, 32] (L.map rowT) := by
        rw [dg, List.dropWhile_cons, if_pos (by decide)]
        have hm1 : (!m'.isEmpty && m'.all formM) = true := by
          unfold okL at h'
          rw [List.all_cons, Bool.and_eq_true] at h'
          exact h'.1
        rw [Bool.and_eq_true] at hm1
        cases m' with
        | nil => simp at hm1
        | cons y m' =>
          rw [rowT_cons, List.append_assoc]
          exact dg_text (List.all_eq_true.1 hm1.2 y (List.mem_cons_self ..)) _
      rw [e2, ih m' (x8 ++ [x :: m]) h' hb']
      simp
theorem read_texts (bars : Bool) (L : List (List S46)) (h : okL L = true) (hb : (∀ r ∈ L, r.length = 1) ∨ bars = true) : (readM bars (textsM L)).1 = L ∧ (readM bars (textsM L)).2.1 = 0 := by
  cases L with
  | nil => exact ⟨rfl, rfl⟩
  | cons m L =>
    unfold textsM
    rw [List.map_cons, Lib.join_cons, readM_eq]
    have hm0 : (!m.isEmpty && m.all formM) = true := by
      unfold okL at h
      rw [List.all_cons, Bool.and_eq_true] at h
      exact h.1
    rw [Bool.and_eq_true] at hm0
    have e2 : dg (rowT m ++ Lib.joinTail [44, 32] (L.map rowT)) = rowT m ++ Lib.joinTail [44, 32] (L.map rowT) ∧ rowT m ++ Lib.joinTail [44, 32] (L.map rowT) ≠ [] := by
      cases m with
      | nil => simp at hm0
      | cons y m' =>
        have hy := List.all_eq_true.1 hm0.2 y (List.mem_cons_self ..)
        rw [rowT_cons, List.append_assoc]
        obtain ⟨c, r, e, _⟩ := text_ne hy
        exact ⟨dg_text hy _, by rw [e]; simp⟩
    rw [e2.1, if_neg e2.2, rows_text bars L m [] h hb]
    exact ⟨rfl, rfl⟩
end Go.Proofs.YtmocooihkobdjaaDoor.Model
end
section
set_option linter.unusedVariables false
set_option linter.unusedSimpArgs false
namespace Go.Proofs.YtmocooihkobdjaaDoor.Model
open Go.RowKit Go.Proofs.YtmocooihkobdjaaDoor.G Go.Proofs.YtmocooihkobdjaaDoorW.PrintWords Go.Proofs.YtmocooihkobdjaaDoorW.PrintLast Go.Proofs.YtmocooihkobdjaaDoor.Ver
end Go.Proofs.YtmocooihkobdjaaDoor.Model
end
section
namespace Go.Proofs.YtmocooihkobdjaaDoor.Model
open Go.RowKit Go.Proofs.YtmocooihkobdjaaDoor.G
def relW (x : S46) : Nat := x.f0.size + x.f2.size + 1
def rowW (l : List S46) : Nat := (l.map relW).sum + 1
def rowsW (L : List (List S46)) : Nat := (L.map rowW).sum + 1
theorem relW_mem {l : List S46} {x : S46} (h : x ∈ l) : relW x ≤ (l.map relW).sum := by
  induction l with
  | nil => cases h
  | cons a l ih =>
    rw [List.map_cons, List.sum_cons]
    rcases List.mem_cons.1 h with q | q
    · rw [q]; omega
    · have := ih q; omega
theorem rowW_mem {L : List (List S46)} {m : List S46} (h : m ∈ L) : rowW m ≤ (L.map rowW).sum := by
  induction L with
  | nil => cases h
  | cons a l ih =>
    rw [List.map_cons, List.sum_cons]
    rcases List.mem_cons.1 h with q | q
    · rw [q]; omega
    · have := ih q; omega
theorem row_length (l : List S46) : l.length ≤ (l.map relW).sum := by
  induction l with
  | nil => simp
  | cons a l ih =>
    rw [List.map_cons, List.sum_cons, List.length_cons]
    unfold relW at *
    omega
theorem rows_length (L : List (List S46)) : L.length ≤ (L.map rowW).sum := by
  induction L with
  | nil => simp
  | cons a l ih =>
    rw [List.map_cons, List.sum_cons, List.length_cons]
    unfold rowW at *
    omega
theorem flat_weigh (L : List (List S46)) : (L.flatten.map relW).sum + L.length ≤ (L.map rowW).sum := by
  induction L with
  | nil => simp
  | cons a l ih =>
    rw [List.map_cons, List.sum_cons, List.flatten_cons, List.map_append, List.sum_append, List.length_cons]
    have : rowW a = (a.map relW).sum + 1 := rfl
    omega
end Go.Proofs.YtmocooihkobdjaaDoor.Model
end
section
set_option linter.unusedVariables false
set_option linter.unusedSimpArgs false
namespace Go.Proofs.YtmocooihkobdjaaDoor.Model
open Go.RowKit Go.Proofs.YtmocooihkobdjaaDoor.G Go.Proofs.YtmocooihkobdjaaDoorW.PrintWords Go.Proofs.YtmocooihkobdjaaDoorW.PrintLast Go.Proofs.YtmocooihkobdjaaDoor.Ver
def wrels (W : List S48) : List S46 := W.map (fun x => x.f1)
def reqW (L : List (List S46)) (F : List S46) (W : List S48) : Nat := rowsW L + (rowW F + rowW (wrels W))
def reqOk (L : List (List S46)) (F : List S46) (W : List S48) : Bool := okL L && ((wrels W).all formM && F.all formM)
theorem req_parts {L : List (List S46)} {F : List S46} {W : List S48} {n : Nat} (h : reqW L F W ≤ n) : (L.map rowW).sum + 1 ≤ n ∧ (F.map relW).sum + 1 ≤ n ∧ ((wrels W).map relW).sum + 1 ≤ n ∧ L.length + L.flatten.length + F.length + W.length ≤ n ∧ (L.flatten.map relW).sum ≤ n := by
  have e1 : rowsW L = (L.map rowW).sum + 1 := rfl
  have e2 : rowW F = (F.map relW).sum + 1 := rfl
  have e3 : rowW (wrels W) = ((wrels W).map relW).sum + 1 := rfl
  have l1 := flat_weigh L
  have l2 := row_length F
  have l3 := row_length (wrels W)
  have l4 := row_length L.flatten
  have l5 : (wrels W).length = W.length := by unfold wrels; rw [List.length_map]
  unfold reqW at h
  omega
theorem wt_at {l : List S48} {i : Nat} (h : i < l.length) : rd_T48 l (i : Int) = l[i] := by
  unfold rd_T48
  rw [Int.toNat_natCast, List.getD_eq_getElem?_getD, List.getElem?_eq_getElem h, Option.getD_some]
end Go.Proofs.YtmocooihkobdjaaDoor.Model
end
section
set_option linter.unusedVariables false
set_option linter.unusedSimpArgs false
namespace Go.Proofs.YtmocooihkobdjaaDoor.Model
open Go.RowKit Go.Proofs.YtmocooihkobdjaaDoor.G Go.Proofs.YtmocooihkobdjaaDoorW.PrintWords Go.Proofs.YtmocooihkobdjaaDoorW.PrintLast Go.Proofs.YtmocooihkobdjaaDoor.Ver
theorem all_good {l : List S46} (h : ∀ x ∈ l, Good x) : l.all formM = true := List.all_eq_true.2 (fun x hx => (h x hx).1)
theorem okL_read {l : B} (h : (readM true l).2.1 = 0) : okL (readM true l).1 = true := by
  obtain ⟨_, h1, h2, _⟩ := readM_ok true l h
  refine List.all_eq_true.2 (fun m hm => ?_)
  have e1 : (!m.isEmpty) = true := by simpa using h1 m hm
  have e2 : m.all formM = true := all_good (fun x hx => h2 x (List.mem_flatten.2 ⟨m, hm, hx⟩))
  rw [e1, e2]
  rfl
theorem okL_app (a b : List (List S46)) : okL (a ++ b) = (okL a && okL b) := by unfold okL; rw [List.all_append]
theorem wrels_app (a b : List S48) : wrels (a ++ b) = wrels a ++ wrels b := by unfold wrels; rw [List.map_append]
theorem wrels_wish (b : Bool) (x : List S46) : wrels (wishL b x) = x := by
  unfold wrels wishL
  rw [List.map_map]
  exact List.map_id x
theorem step_ok (t : B) (q : Q) (hq : reqOk q.1 q.2.1 q.2.2 = true) (h : (stepM t q).2 = 0) : reqOk (stepM t q).1.1 (stepM t q).1.2.1 (stepM t q).1.2.2 = true := by
  unfold reqOk at hq
  rw [Bool.and_eq_true, Bool.and_eq_true] at hq
  obtain ⟨q1, q2, q3⟩ := hq
  unfold stepM at h ⊢
  split
  · simp only [reqOk, q1, q2, q3]; rfl
  rename_i n0
  rw [if_neg n0] at h
  split
  · rename_i k1
    rw [if_pos k1] at h
    simp only [reqOk, okL_app, q1, q2, q3, okL_read h]
    rfl
  rename_i n1
  rw [if_neg n1] at h
  split
  · rename_i k2
    rw [if_pos k2] at h
    have g := all_good (readM_ok false (restM t) h).2.2.1
    simp only [reqOk, List.all_append, q1, q2, q3, g]
    rfl
  rename_i n2
  rw [if_neg n2] at h
  split
  · rename_i k3
    rw [if_pos k3] at h
    have g := all_good (readM_ok false (restM t) h).2.2.1
    simp only [reqOk, wrels_app, wrels_wish, List.all_append, q1, q2, q3, g]
    rfl
  rename_i n3
  rw [if_neg n3] at h
  split
  · rename_i k4
    rw [if_pos k4] at h
    have g := all_good (readM_ok false (restM t) h).2.2.1
    simp only [reqOk, wrels_app, wrels_wish, List.all_append, q1, q2, q3, g]
    rfl
  · rename_i n4
    rw [if_neg n4] at h
    exact absurd h (show ¬ (240 : Int) = 0 by decide)
theorem lines_ok : ∀ (b : List B) (j : Nat) (q : Q), reqOk q.1 q.2.1 q.2.2 = true → reqOk (linesM b j q).1 (linesM b j q).2.1 (linesM b j q).2.2.1 = true
  | [], j, q, h => h
  | l :: b, j, q, h => by
    rw [linesM]
    split
    · exact lines_ok b _ q h
    · split
      · rename_i h2
        exact lines_ok b _ _ (step_ok _ q h h2)
      · rfl
theorem reqM_ok (l : B) : reqOk (reqM l).1 (reqM l).2.1 (reqM l).2.2.1 = true := lines_ok _ 0 ([], [], []) rfl
theorem lines_err : ∀ (b : List B) (j : Nat) (q : Q), ¬ (linesM b j q).2.2.2.1 = 0 → (linesM b j q).1 = [] ∧ (linesM b j q).2.1 = [] ∧ (linesM b j q).2.2.1 = []
  | [], j, q, h => absurd rfl h
  | l :: b, j, q, h => by
    rw [linesM] at h ⊢
    split
    · rename_i h1
      rw [if_pos h1] at h
      exact lines_err b _ _ h
    · rename_i h1
      rw [if_neg h1] at h
      split
      · rename_i h2
        rw [if_pos h2] at h
        exact lines_err b _ _ h
      · exact ⟨rfl, rfl, rfl⟩
theorem wt_rel (l : List S46) : (l.map relW).sum = wt l + l.length := by
  induction l with
  | nil => rfl
  | cons x l ih =>
    rw [List.map_cons, List.sum_cons, ih, List.length_cons]
    have e : wt (x :: l) = relSize x + wt l := by simp [wt]
    rw [e]
    unfold relW relSize
    omega
theorem wt_rows (L : List (List S46)) : (L.map rowW).sum = (L.flatten.map relW).sum + L.length := by
  induction L with
  | nil => rfl
  | cons m L ih =>
    rw [List.map_cons, List.sum_cons, ih, List.flatten_cons, List.map_append, List.sum_append, List.length_cons]
    unfold rowW
    omega
def wQ (q : Q) : Nat := (q.1.map rowW).sum + (q.2.1.map relW).sum + ((wrels q.2.2).map relW).sum
theorem read_wt (bars : Bool) (l : B) : ((readM bars l).1.map rowW).sum ≤ 3 * l.length ∧ ((readM bars l).1.flatten.map relW).sum ≤ 2 * l.length := by
  by_cases h : (readM bars l).2.1 = 0
  · obtain ⟨_, h1, h2, h3⟩ := readM_ok bars l h
    have a1 := wt_len (fun x hx => (h2 x hx).2)
    have a2 := flat_len h1
    rw [wt_rows, wt_rel]
    omega
  · rw [readM_err bars l h]
    simp
theorem step_w (t : B) (q : Q) : wQ (stepM t q).1 ≤ wQ q + 3 * t.length := by
  have hr := rest_le t
  obtain ⟨a1, a2⟩ := read_wt true (restM t)
  obtain ⟨b1, b2⟩ := read_wt false (restM t)
  unfold stepM wQ
  split
  · simp
  split
  · simp only [List.map_append, List.sum_append]; omega
  split
  · simp only [List.map_append, List.sum_append]; omega
  split
  · simp only [wrels_app, wrels_wish, List.map_append, List.sum_append]; omega
  split
  · simp only [wrels_app, wrels_wish, List.map_append, List.sum_append]; omega
  · simp
theorem lines_w : ∀ (ls : List B) (i : Nat) (q : Q), wQ ((linesM ls i q).1, (linesM ls i q).2.1, (linesM ls i q).2.2.1) ≤ wQ q + 3 * (ls.map List.length).sum
  | [], i, q => by simp [linesM]
  | l :: ls, i, q => by
    rw [List.map_cons, List.sum_cons]
    have ht := trim_le l
    unfold linesM
    split
    · have := lines_w ls (i + 1) q
      omega
    · split
      · have h1 := lines_w ls (i + 1) (stepM (trimM l) q).1
        have h2 := step_w (trimM l) q
        omega
      · simp [wQ, wrels]
theorem reqM_w (l : B) : reqW (reqM l).1 (reqM l).2.1 (reqM l).2.2.1 ≤ 3 * l.length + 3 := by
  have h1 := lines_w (splitL l) 0 ([], [], [])
  have h2 := split_sum l
  have e : wQ (([], [], []) : Q) = 0 := rfl
  rw [e] at h1
  have e2 : reqW (reqM l).1 (reqM l).2.1 (reqM l).2.2.1 = wQ ((reqM l).1, (reqM l).2.1, (reqM l).2.2.1) + 3 := by
    have f1 : rowW (reqM l).2.1 = ((reqM l).2.1.map relW).sum + 1 := rfl
    have f2 : rowW (wrels (reqM l).2.2.1) = ((wrels (reqM l).2.2.1).map relW).sum + 1 := rfl
    simp only [reqW, wQ, rowsW, f1, f2]
    omega
  rw [e2]
  unfold reqM
  omega
theorem awake_val : reqM [105, 110, 115, 116, 97, 108, 108, 32, 97, 97, 32, 124, 32, 98, 98, 10, 35, 32, 120, 10, 97, 118, 111, 105, 100, 32, 99, 99, 10] = ([[⟨ofL [97, 97], 0, ⟨#[]⟩⟩, ⟨ofL [98, 98], 0, ⟨#[]⟩⟩]], [], [⟨true, ⟨ofL [99, 99], 0, ⟨#[]⟩⟩⟩], 0, 0) := by kernel_rfl
theorem awake_ev : Ev (fun k => depotlaw24_awake.f k) true := by
  have h3 := Req_ev ⟨#[105, 110, 115, 116, 97, 108, 108, 32, 97, 97, 32, 124, 32, 98, 98, 10, 35, 32, 120, 10, 97, 118, 111, 105, 100, 32, 99, 99, 10]⟩ (by decide)
  rw [show (⟨#[105, 110, 115, 116, 97, 108, 108, 32, 97, 97, 32, 124, 32, 98, 98, 10, 35, 32, 120, 10, 97, 118, 111, 105, 100, 32, 99, 99, 10]⟩ : ByteArray).data.toList = [105, 110, 115, 116, 97, 108, 108, 32, 97, 97, 32, 124, 32, 98, 98, 10, 35, 32, 120, 10, 97, 118, 111, 105, 100, 32, 99, 99, 10] from rfl, awake_val] at h3
  unfold depotlaw24_awake.f
  refine Ev.bind h3 ?_
  refine Ev.congr (fun k => ?_) (Ev.now true)
  have e1 : (ofL [98, 98]).toList = [98, 98] := ofL_list _
  have e2 : (ofL [99, 99]).toList = [99, 99] := ofL_list _
  simp [rd_L3, rd_T46, rd_T48, e1, e2]
end Go.Proofs.YtmocooihkobdjaaDoor.Model
end
section
set_option linter.unusedVariables false
set_option linter.unusedSimpArgs false
namespace Go.Proofs.YtmocooihkobdjaaDoor.Model
open Go.RowKit Go.Proofs.YtmocooihkobdjaaDoor.G Go.Proofs.YtmocooihkobdjaaDoorW.PrintWords Go.Proofs.YtmocooihkobdjaaDoorW.PrintLast Go.Proofs.YtmocooihkobdjaaDoor.Ver
theorem form_ev (x : S46) (h : relW x ≤ 140737488351232) : Ev (fun k => relation_Formed.f k x.f0 x.f1 x.f2) (formM x) := by
  unfold relW at h
  have hn := name_ev x.f0 (by omega)
  have hl := plegal_ev x.f2 (by omega)
  unfold relation_Formed.f formM
  refine Ev.bind hn ?_
  cases nameM x.f0.data.toList with
  | false =>
    simp only [Bool.false_eq_true, if_false, Bool.false_and]
    exact Ev.now _
  | true =>
    simp only [if_true, Bool.true_and]
    by_cases h0 : x.f1 = 0
    · simp only [if_pos h0]
      exact Ev.now _
    · simp only [if_neg h0, relation_word.f, Option.bind_some]
      by_cases hw : (wordOf x.f1).toList = []
      · simp only [if_pos hw]
        exact Ev.now _
      · simp only [if_neg hw]
        exact Ev.bind hl (Ev.now _)
end Go.Proofs.YtmocooihkobdjaaDoor.Model
end
section
set_option linter.unusedVariables false
set_option linter.unusedSimpArgs false
namespace Go.Proofs.YtmocooihkobdjaaDoor.Model
open Go.RowKit Go.Proofs.YtmocooihkobdjaaDoor.G Go.Proofs.YtmocooihkobdjaaDoorW.PrintWords Go.Proofs.YtmocooihkobdjaaDoorW.PrintLast Go.Proofs.YtmocooihkobdjaaDoor.Ver
theorem contains_ev : ∀ (l : List S46), (∀ x ∈ l, relW x ≤ 140737488351232) → Ev (fun k => api_Rel_24.f k l) (!l.all formM) := by
  intro l
  unfold api_Rel_24.f
  induction l with
  | nil => intro _; exact Ev.now _
  | cons x l ih =>
    intro h
    have hx := form_ev x (h x (List.mem_cons_self ..))
    have hl := ih (fun y hy => h y (List.mem_cons_of_mem _ hy))
    unfold api_Rel_24.l0
    refine Ev.bind hx ?_
    rw [List.all_cons]
    cases formM x with
    | true => simp only [if_true, Bool.true_and]; exact hl
    | false => simp only [Bool.false_eq_true, if_false, Bool.false_and, Bool.not_false]; exact Ev.now _
theorem reqform_l1 (L : List (List S46)) (hL : (L.map rowW).sum ≤ 8388608) : ∀ (d i : Nat), i + d = L.length → ∀ l : List S46, l.length + (L.drop i).flatten.length ≤ 100000000 → (∀ x ∈ l, relW x ≤ 140737488351232) →
    Ev (fun k => request_Formed.l1 k l L (L.length : Int) (i : Int)) (full (L.drop i) && (l ++ (L.drop i).flatten).all formM) := by
  have hLl := rows_length L
  have hfw := flat_weigh L
  intro d
  induction d with
  | zero =>
    intro i hi l hl hx
    obtain rfl : i = L.length := by omega
    rw [List.drop_length, List.flatten_nil, List.append_nil]
    refine Ev.step (f := fun k => (api_Rel_24.f k l).bind fun t => some (!t)) (fun k => ?_) (Ev.bind (contains_ev l hx) ?_)
    · simp only [request_Formed.l1]
      rw [if_neg (by omega)]
    · simp only [Bool.not_not, full, List.all_nil, Bool.true_and]
      exact Ev.now _
  | succ d ih =>
    intro i hi l hl hx
    have hi' : i < L.length := by omega
    have ew : wrap64 ((i : Int) + 1) = ((i + 1 : Nat) : Int) := by rw [wrap_id (by omega) (by omega)]; omega
    rw [drop_at hi', List.flatten_cons] at hl ⊢
    rw [List.length_append] at hl
    by_cases h0 : L[i] = []
    · refine Ev.step (f := fun _ => some false) (fun k => ?_) ?_
      · simp only [request_Formed.l1, rd_at hi', h0, List.length_nil]
        rw [if_pos (by omega), if_pos (by omega), if_pos (by omega), if_pos (by rfl)]
      · rw [full, List.all_cons, h0]
        exact Ev.now _
    · have hz : ¬ ((L[i].length : Nat) : Int) = 0 := by
        have : L[i].length ≠ 0 := fun q => h0 (List.eq_nil_of_length_eq_zero q)
        omega
      have hrow := rowW_mem (List.getElem_mem hi')
      have hrw : rowW L[i] = (L[i].map relW).sum + 1 := rfl
      have hn := ih (i + 1) (by omega) (l ++ L[i]) (by rw [List.length_append]; omega) (fun x hxm => by
        rcases List.mem_append.1 hxm with q | q
        · exact hx x q
        · have := relW_mem q; omega)
      have e : (full (L[i] :: L.drop (i + 1)) && (l ++ (L[i] ++ (L.drop (i + 1)).flatten)).all formM) = (full (L.drop (i + 1)) && ((l ++ L[i]) ++ (L.drop (i + 1)).flatten).all formM) := by
        rw [full, List.all_cons, List.append_assoc]
        have : (!L[i].isEmpty) = true := by simpa using h0
        rw [this, Bool.true_and]; rfl
      rw [e]
      refine Ev.step (f := _) (fun k => ?_) hn
      simp only [request_Formed.l1, rd_at hi', ew]
      rw [if_pos (by omega), if_pos (by omega), if_pos (by omega), if_neg hz, if_pos (by omega)]
theorem reqform_ev (L : List (List S46)) (F : List S46) (W : List S48) (h : reqW L F W ≤ 8388608) : Ev (fun k => request_Formed.f k L F W) (reqOk L F W) := by
  obtain ⟨h1, h2, h3, h4, h5⟩ := req_parts h
  have hL1 := fun l a b => reqform_l1 L (by omega) L.length 0 (by omega) l a b
  have hFx : ∀ x ∈ F, relW x ≤ 140737488351232 := fun x q => by have := relW_mem q; omega
  have hWx : ∀ x ∈ wrels W, relW x ≤ 140737488351232 := fun x q => by have := relW_mem q; omega
  have hB : L.flatten.length + F.length + W.length ≤ 8388608 := by omega
  have hF : F.length ≤ 8388608 := by omega
  have hW : W.length ≤ 8388608 := by omega
  clear h h1 h2 h3 h4 h5
  have key : ∀ (d i : Nat), i + d = W.length → ∀ l : List S46, l = F ++ wrels (W.take i) → Ev (fun k => request_Formed.l0 k l W (W.length : Int) (i : Int) L F W) (reqOk L F W) := by
    intro d
    induction d with
    | zero =>
      intro i hi l hl
      obtain rfl : i = W.length := by omega
      rw [List.take_length] at hl
      have hlen : l.length = F.length + W.length := by rw [hl, List.length_append]; unfold wrels; rw [List.length_map]
      have hn := hL1 l (by rw [List.drop_zero]; omega) (fun x hx => by
        rw [hl] at hx
        rcases List.mem_append.1 hx with q | q
        · exact hFx x q
        · exact hWx x q)
      rw [List.drop_zero, hl] at hn
      have e : (full L && ((F ++ wrels W) ++ L.flatten).all formM) = reqOk L F W := by
        unfold reqOk
        rw [okL_parts, List.all_append, List.all_append, fair_flat]
        cases full L <;> cases fair L <;> cases F.all formM <;> cases (wrels W).all formM <;> rfl
      rw [e] at hn
      rw [hl]
      refine Ev.step (f := _) (fun k => ?_) hn
      simp only [request_Formed.l0]
      rw [if_neg (by omega)]
      rfl
    | succ d ih =>
      intro i hi l hl
      have hi' : i < W.length := by omega
      have ew : wrap64 ((i : Int) + 1) = ((i + 1 : Nat) : Int) := by rw [wrap_id (by omega) (by omega)]; omega
      have hlen : l.length = F.length + i := by rw [hl, List.length_append]; unfold wrels; rw [List.length_map, List.length_take]; omega
      have hn := ih (i + 1) (by omega) (l ++ [W[i].f1]) (by rw [List.take_succ_eq_append_getElem hi', hl]; unfold wrels; rw [List.map_append, List.append_assoc]; rfl)
      refine Ev.step (f := _) (fun k => ?_) hn
      simp only [request_Formed.l0, wt_at hi', ew]
      rw [if_pos (by omega), if_pos (by omega), if_pos (by omega), if_pos (by omega)]
  unfold request_Formed.f
  have hc : api_Rel_23.f F = some F := by
    unfold api_Rel_23.f
    simp only [Option.bind_some, List.length_nil, List.nil_append]
    rw [if_pos (by omega)]
  rw [hc]
  exact key W.length 0 (by omega) F (by simp [wrels])
end Go.Proofs.YtmocooihkobdjaaDoor.Model
end
