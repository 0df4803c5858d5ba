/- A part of the proof: the texts of this claim, packed by a program of this session (wip/pack.py). -/
import Derived.Lib.IndexBytes
import Derived.Laws.StructEq
import Derived.Test.YtmocooihkobdjaaDoorIk1
import Derived.Test.YtmocooihkobdjaaDoorIk2
import Derived.Test.YtmocooihkobdjaaDoorIk3
section
namespace Go.Proofs.YtmocooihkobdjaaDoor.I
open Go.RowKit Go.Proofs.YtmocooihkobdjaaDoorW.PrintWords Go.Proofs.YtmocooihkobdjaaDoorW.PrintLast Go.Proofs.YtmocooihkobdjaaDoorW.PrintMore
attribute [local go_sem] max2_int min2_int max_two min_two max_three min_three max_four min_four
set_option linter.unusedVariables false
set_option linter.unusedSimpArgs false
def depotlaw24_awake.f (k : Nat)  : Option (Bool) := (request_Read.f k (⟨#[105, 110, 115, 116, 97, 108, 108, 32, 97, 97, 32, 124, 32, 98, 98, 10, 35, 32, 120, 10, 97, 118, 111, 105, 100, 32, 99, 99, 10]⟩ : ByteArray)).bind fun bt232 => (if bt232.2.2.2.1 = 0 then (if bt232.2.2.2.2 = 0 then (if (bt232.1.length : Int) = 1 then (if 0 < (bt232.1.length : Int) then (if ((rd_L3 bt232.1 0).length : Int) = 2 then (if 1 < ((rd_L3 bt232.1 0).length : Int) then (if ((rd_T46 (rd_L3 bt232.1 0) 1).f0).toList = ([98, 98] : List UInt8) then (if (bt232.2.2.1.length : Int) = 1 then (if 0 < (bt232.2.2.1.length : Int) then (if (rd_T48 bt232.2.2.1 0).f0 = true then (some (((rd_T48 bt232.2.2.1 0).f1.f0).toList == ([99, 99] : List UInt8))) else (some false)) else (none)) else (some false)) else (some false)) else (none)) else (some false)) else (none)) else (some false)) else (some false)) else (some false))
theorem depotlaw24_awake.mono : ∀ k, LeO (depotlaw24_awake.f k ) (depotlaw24_awake.f (k + 1) ) := by
 intro  k
 unfold depotlaw24_awake.f
 repeat' first
   | (with_reducible exact request_Read.mono _ _)
   | (with_reducible exact LeO.refl _)
   | (with_reducible exact LeO.none _)
   | (with_reducible refine LeO.ite ?_ ?_)
   | (with_reducible refine LeO.bind ?_ (fun _ => ?_))
   | exact request_Read.mono _ _
   | exact LeO.none _
   | refine LeO.ite ?_ ?_
   | refine LeO.bind ?_ (fun _ => ?_)
set_option maxHeartbeats 8000000 in
set_option maxRecDepth 100000 in
theorem depotlaw24_awake.calls (k : Nat)  (r : Bool) (w : World) (hG : GG w) (h : depotlaw24_awake.f k  = some r) :
  Calls Tryd.prog 21 #[] w fun e w' => e = .returned (.bool r) ∧ Below w.heap.size w w' := by
 have hu26 := Tryd.underlying26
 have HB := Aside0.mk (Below.refl w.heap.size w)
 have HG := Aside0.mk hG
 clear hG
 have H : ((request_Read.f k (⟨#[105, 110, 115, 116, 97, 108, 108, 32, 97, 97, 32, 124, 32, 98, 98, 10, 35, 32, 120, 10, 97, 118, 111, 105, 100, 32, 99, 99, 10]⟩ : ByteArray)).bind fun bt232 => (if bt232.2.2.2.1 = 0 then (if bt232.2.2.2.2 = 0 then (if (bt232.1.length : Int) = 1 then (if 0 < (bt232.1.length : Int) then (if ((rd_L3 bt232.1 0).length : Int) = 2 then (if 1 < ((rd_L3 bt232.1 0).length : Int) then (if ((rd_T46 (rd_L3 bt232.1 0) 1).f0).toList = ([98, 98] : List UInt8) then (if (bt232.2.2.1.length : Int) = 1 then (if 0 < (bt232.2.2.1.length : Int) then (if (rd_T48 bt232.2.2.1 0).f0 = true then (some (((rd_T48 bt232.2.2.1 0).f1.f0).toList == ([99, 99] : List UInt8))) else (some false)) else (none)) else (some false)) else (some false)) else (none)) else (some false)) else (none)) else (some false)) else (some false)) else (some false))) = some r := h
 clear h
 replace H := Option.bind_eq_some_iff.mp H
 obtain ⟨⟨t232, t235, t238, t241, t242⟩, A10, H⟩ := H
 replace H : (if t241 = 0 then (if t242 = 0 then (if (t232.length : Int) = 1 then (if 0 < (t232.length : Int) then (if ((rd_L3 t232 0).length : Int) = 2 then (if 1 < ((rd_L3 t232 0).length : Int) then (if ((rd_T46 (rd_L3 t232 0) 1).f0).toList = ([98, 98] : List UInt8) then (if (t238.length : Int) = 1 then (if 0 < (t238.length : Int) then (if (rd_T48 t238 0).f0 = true then (some (((rd_T48 t238 0).f1.f0).toList == ([99, 99] : List UInt8))) else (some false)) else (none)) else (some false)) else (some false)) else (none)) else (some false)) else (none)) else (some false)) else (some false)) else (some false)) = some r := H
 have A1 := Aside0.mk A10
 clear A10
 by_cases c2 : t241 = 0
 ·rw [if_pos c2] at H
  have c2b0 : (t241 == 0) = true := beq_iff_eq.mpr c2
  have c2b1 : (t241 != 0) = false := bne_eq_false_iff_eq.mpr c2
  clear c2
  by_cases c3 : t242 = 0
  ·rw [if_pos c3] at H
   have c3b0 : (t242 == 0) = true := beq_iff_eq.mpr c3
   have c3b1 : (t242 != 0) = false := bne_eq_false_iff_eq.mpr c3
   clear c3
   by_cases c4 : (t232.length : Int) = 1
   ·rw [if_pos c4] at H
    have c4b0 : ((t232.length : Int) == 1) = true := beq_iff_eq.mpr c4
    have c4b1 : ((t232.length : Int) != 1) = false := bne_eq_false_iff_eq.mpr c4
    clear c4
    by_cases c5 : 0 < (t232.length : Int)
    ·rw [if_pos c5] at H
     have c5b0 : decide (0 < (t232.length : Int)) = true := decide_eq_true c5
     have c5b1 : decide (0 < t232.length) = true := decide_eq_true (by omega)
     clear c5
     by_cases c6 : ((rd_L3 t232 0).length : Int) = 2
     ·rw [if_pos c6] at H
      have c6b0 : (((rd_L3 t232 0).length : Int) == 2) = true := beq_iff_eq.mpr c6
      have c6b1 : (((rd_L3 t232 0).length : Int) != 2) = false := bne_eq_false_iff_eq.mpr c6
      clear c6
      by_cases c7 : 1 < ((rd_L3 t232 0).length : Int)
      ·rw [if_pos c7] at H
       have c7b0 : decide (1 < ((rd_L3 t232 0).length : Int)) = true := decide_eq_true c7
       have c7b1 : decide (1 < (rd_L3 t232 0).length) = true := decide_eq_true (by omega)
       clear c7
       by_cases c8 : ((rd_T46 (rd_L3 t232 0) 1).f0).toList = ([98, 98] : List UInt8)
       ·rw [if_pos c8] at H
        have c8b0 : (((rd_T46 (rd_L3 t232 0) 1).f0).toList == ([98, 98] : List UInt8)) = true := beq_iff_eq.mpr c8
        have c8b1 : (((rd_T46 (rd_L3 t232 0) 1).f0).toList != ([98, 98] : List UInt8)) = false := bne_eq_false_iff_eq.mpr c8
        clear c8
        by_cases c9 : (t238.length : Int) = 1
        ·rw [if_pos c9] at H
         have c9b0 : ((t238.length : Int) == 1) = true := beq_iff_eq.mpr c9
         have c9b1 : ((t238.length : Int) != 1) = false := bne_eq_false_iff_eq.mpr c9
         clear c9
         by_cases c10 : 0 < (t238.length : Int)
         ·rw [if_pos c10] at H
          have c10b0 : decide (0 < (t238.length : Int)) = true := decide_eq_true c10
          have c10b1 : decide (0 < t238.length) = true := decide_eq_true (by omega)
          clear c10
          obtain ⟨bq11, hbq11⟩ : ∃ b_ : Bool, b_ = ((rd_T48 t238 0).f0) := ⟨_, rfl⟩
          replace H : (if bq11 = true then (some (((rd_T48 t238 0).f1.f0).toList == ([99, 99] : List UInt8))) else (some false)) = some r := by rw [← hbq11] at H; exact H
          have Nbq11 := Aside0.mk hbq11
          clear hbq11
          by_cases c12 : bq11 = true
          ·subst c12
           have H1 : (some (((rd_T48 t238 0).f1.f0).toList == ([99, 99] : List UInt8))) = some r := by rw [if_pos rfl] at H; exact H
           clear H
           have H := H1
           clear H1
           obtain rfl := Option.some.inj H
           go_enter Tryd.func21, Tryd.ntmps21
           go_wp2_with (first | ((with_reducible refine gate_callee (f := 19) rfl ?_); refine goesL_ (some 5) rfl rfl Tryd.func19 (by kernel_rfl) rfl #[.string (⟨#[105, 110, 115, 116, 97, 108, 108, 32, 97, 97, 32, 124, 32, 98, 98, 10, 35, 32, 120, 10, 97, 118, 111, 105, 100, 32, 99, 99, 10]⟩ : ByteArray)] rfl (by (try simp only [List.map_toArray, List.map_cons, List.map_nil]); first | done | rfl | (simp only [List.length_drop, List.length_take]; rfl) | (simp; done)) ?_; (with_reducible refine (request_Read.calls k (⟨#[105, 110, 115, 116, 97, 108, 108, 32, 97, 97, 32, 124, 32, 98, 98, 10, 35, 32, 120, 10, 97, 118, 111, 105, 100, 32, 99, 99, 10]⟩ : ByteArray) t232 t235 t238 t241 t242 _ ?side1 A1.out).mono ?_); (case side1 => exact GG.below HG.out (W0 HB.out)); rintro e w13 ⟨v233, v236, v239, rfl, ho0, ho1, ho2, hb⟩; refine ⟨_, rfl, ?_⟩; have n0_ := Aside0.mk (Kd.N_lower (Kd.N_mono (ok' := fun k_ => some k_ ≠ (v236 : Value).ownBlock ∧ some k_ ≠ (v239 : Value).ownBlock) ho0 (fun k_ hk_ => ⟨hk_.2.1, hk_.2.2⟩)) (below_size (W0 HB.out))); have n1_ := Aside0.mk (Kd.R_lower (Kd.R_mono (ok' := fun k_ => True) ho1 (fun _ hk_ => trivial)) (below_size (W0 HB.out))); have n2_ := Aside0.mk (Kd.R_lower (Kd.R_mono (ok' := fun k_ => True) ho2 (fun _ hk_ => trivial)) (below_size (W0 HB.out))); have n3_ := Aside0.mk (below_step (W0 HB.out) hb); clear HB; have HO234 := n0_; have HO237 := n1_; have HO240 := n2_; have HB := n3_; clear n0_ n1_ n2_ n3_; (try clear hb); (try clear hb2); (try clear hk); (try clear hi); (try clear ho0); (try clear ho1); (try clear ho2)) | ((with_reducible refine gate_dst (N := 1) rfl ?_); (try (refine gate_guard (by rfl) ?_; dsimp only)); refine box_event ?hg (N := 1) ?hd (cs := #[.slice none 0 0, .slice none 0 0, .slice none 0 0]) (t := 26) ?hr ?_; (case hd => rfl); (case hg => rfl); (case hr => first | (go_simp; done) | (go_simp; rfl)); intro gb243 hg w14 hbox hb; have n0_ := Aside0.mk (Kd.N_below (Kd.N_elderB (Nq HO234.out) gb243 (Nat.le_of_eq hg.symm)) hb); have n1_ := Aside0.mk (Kd.R_below (Rq HO237.out) hb); have n2_ := Aside0.mk (Kd.R_below (Rq HO240.out) hb); have n3_ := Aside0.mk (below_step (W0 HB.out) hb); have n4_ := Aside0.mk (hbox); have n5_ := Aside0.mk ((by rw [hg]; exact (below_size (W0 HB.out)) : w.heap.size ≤ gb243)); have n6_ := Aside0.mk ((by rw [hg]; exact (below_size (W0 HB.out)) : w.heap.size ≤ gb243)); clear HO234; clear HO237; clear HO240; clear HB; have HO234 := n0_; have HO237 := n1_; have HO240 := n2_; have HB := n3_; have BK243 := n4_; have GW243 := n5_; have GE243 := n6_; clear n0_ n1_ n2_ n3_ n4_ n5_ n6_; clear hb hbox hg; obtain ⟨Ao15, co15, eo15⟩ := Kd.N_slice HO234.out; subst eo15; have hcz16_0 : w14.cell? ⟨gb243, 0, none⟩ = some (.slice none 0 0) := (blk_cell BK243.out 0).trans rfl; have hcz16_1 : w14.cell? ⟨gb243, 1, none⟩ = some (.slice none 0 0) := (blk_cell BK243.out 1).trans rfl; have hcz16_2 : w14.cell? ⟨gb243, 2, none⟩ = some (.slice none 0 0) := (blk_cell BK243.out 2).trans rfl; have hfz16_0 := blk_frozen BK243.out 0; have hfz16_1 := blk_frozen BK243.out 1; have hfz16_2 := blk_frozen BK243.out 2; obtain ⟨Ao17, co17, eo17⟩ := Kd.R_slice HO237.out; subst eo17; obtain ⟨Ao18, co18, eo18⟩ := Kd.R_slice HO240.out; subst eo18) | ((with_reducible refine gate_store (t := 26) (p := 1) rfl ?_); refine store_event (t := 26) (p := 1) (v := ?vo_w19) (w1 := (((w14.setCell ⟨gb243, 0, none⟩ (.slice Ao15 t232.length co15)).setCell ⟨gb243, 1, none⟩ (.slice Ao17 t235.length co17)).setCell ⟨gb243, 2, none⟩ (.slice Ao18 t238.length co18))) ?hg ?ho ?hn ?hr ?_; (case ho => rfl); (case hg => rfl); (case hn => rfl); (case hr => first | (go_simp; done) | (go_simp; rfl)); intro w19 hw; have n0_ : Aside0 (Kd.N (Kd.slice 46 k46) 23 w19 w.heap.size (fun k_ => some k_ ≠ (.slice Ao17 t235.length co17 : Value).ownBlock ∧ some k_ ≠ (.slice Ao18 t238.length co18 : Value).ownBlock ∧ k_ ≠ gb243) (.slice Ao15 t232.length co15) t232) := ⟨(by rw [hw]; exact (by (with_reducible repeat (first | apply Kd.N_alloc | apply Kd.N_drewN | apply Kd.N_drew)); exact Kd.N_mono (Kd.N_far (p := ⟨gb243, 2, none⟩) (Kd.N_far (p := ⟨gb243, 1, none⟩) (Kd.N_far (p := ⟨gb243, 0, none⟩) (Kd.N_mono HO234.out (fun k_ hk => (⟨hk, hk.2⟩ : _ ∧ k_ ≠ gb243))) (fun _ hk => hk.2) (.slice Ao15 t232.length co15)) (fun _ hk => hk.2) (.slice Ao17 t235.length co17)) (fun _ hk => hk.2) (.slice Ao18 t238.length co18)) (fun _ hk => ⟨hk.1.1.1, ⟨hk.1.1.2, hk.1.2⟩⟩)))⟩; have n1_ : Aside0 (Kd.R k46 46 w19 w.heap.size (fun _ => True) (.slice Ao17 t235.length co17) t235) := ⟨(by rw [hw]; exact (by (with_reducible repeat (first | apply Kd.R_alloc | apply Kd.R_drewN | apply Kd.R_drew)); exact Kd.R_mono (Kd.R_far (p := ⟨gb243, 2, none⟩) (Kd.R_far (p := ⟨gb243, 1, none⟩) (Kd.R_far (p := ⟨gb243, 0, none⟩) (Rt HO237.out BK243.out) (fun _ hk => hk.2) (.slice Ao15 t232.length co15)) (fun _ hk => hk.2) (.slice Ao17 t235.length co17)) (fun _ hk => hk.2) (.slice Ao18 t238.length co18)) (fun _ hk => trivial)))⟩; have n2_ : Aside0 (Kd.R k48 48 w19 w.heap.size (fun _ => True) (.slice Ao18 t238.length co18) t238) := ⟨(by rw [hw]; exact (by (with_reducible repeat (first | apply Kd.R_alloc | apply Kd.R_drewN | apply Kd.R_drew)); exact Kd.R_mono (Kd.R_far (p := ⟨gb243, 2, none⟩) (Kd.R_far (p := ⟨gb243, 1, none⟩) (Kd.R_far (p := ⟨gb243, 0, none⟩) (Rt HO240.out BK243.out) (fun _ hk => hk.2) (.slice Ao15 t232.length co15)) (fun _ hk => hk.2) (.slice Ao17 t235.length co17)) (fun _ hk => hk.2) (.slice Ao18 t238.length co18)) (fun _ hk => trivial)))⟩; have n3_ : Aside0 (w19.heap[gb243]? = some (.cells #[.slice Ao15 t232.length co15, .slice Ao17 t235.length co17, .slice Ao18 t238.length co18] 26 (0, 0))) := ⟨(by rw [hw]; exact (by (with_reducible repeat (first | refine blk_drewN ?_ _ | refine blk_drew ?_ | refine blk_alloc ?_ _)); refine blk_put (cs := #[.slice Ao15 t232.length co15, .slice Ao17 t235.length co17, .slice none 0 0]) ?_ 2 _ rfl; (with_reducible repeat (first | refine blk_drewN ?_ _ | refine blk_drew ?_ | refine blk_alloc ?_ _)); refine blk_put (cs := #[.slice Ao15 t232.length co15, .slice none 0 0, .slice none 0 0]) ?_ 1 _ rfl; (with_reducible repeat (first | refine blk_drewN ?_ _ | refine blk_drew ?_ | refine blk_alloc ?_ _)); refine blk_put (cs := #[.slice none 0 0, .slice none 0 0, .slice none 0 0]) ?_ 0 _ rfl; (with_reducible repeat (first | refine blk_drewN ?_ _ | refine blk_drew ?_ | refine blk_alloc ?_ _)); exact BK243.out))⟩; have n4_ : Aside0 (Below w.heap.size w w19) := ⟨(by rw [hw]; exact (W1 HB.out GE243.out))⟩; clear hw; clear HO234; clear HO237; clear HO240; clear BK243; clear HB; have HO234 := n0_; have HO237 := n1_; have HO240 := n2_; have BK243 := n3_; have HB := n4_; clear n0_ n1_ n2_ n3_ n4_; have hcz20_0 : w19.cell? ⟨gb243, 0, none⟩ = some (.slice Ao15 t232.length co15) := (blk_cell BK243.out 0).trans rfl; have hcz20_1 : w19.cell? ⟨gb243, 1, none⟩ = some (.slice Ao17 t235.length co17) := (blk_cell BK243.out 1).trans rfl; have hcz20_2 : w19.cell? ⟨gb243, 2, none⟩ = some (.slice Ao18 t238.length co18) := (blk_cell BK243.out 2).trans rfl; have hfz20_0 := blk_frozen BK243.out 0; have hfz20_1 := blk_frozen BK243.out 1; have hfz20_2 := blk_frozen BK243.out 2; have p244 : 0 ≤ (0 : Int) := (by omega); have q244 : 0 < (t232.length : Int) := of_decide_eq_true (by first | (with_reducible assumption) | assumption); obtain ⟨ad244, A244_0, c244_0, e244, hx244_0, hl244_0, hi244_0⟩ := at_L3 (Kd.N_reads' HO234.out).2.2 0 p244 q244; cases e244; obtain ⟨ce244, hce244, hMe244, hcc244⟩ := Kd.N_get HO234.out [] 0 p244 (by first | exact q244 | exact of_decide_eq_true (by first | (with_reducible assumption) | assumption) | (have e_ := (Kd.N_reads' HO234.out).1; omega)); obtain ⟨ua244_0, uc244_0, rfl, ul244_0, ge244_0⟩ := Kd.FK_slice_open hMe244; have hv244_0 := hcc244 0 _ rfl; rw [Nat.add_zero, show ((Kd.slice 46 k46)).sz = 1 from rfl, Nat.mul_one] at hv244_0; replace hv244_0 := Option.some.inj (hv244_0.symm.trans hx244_0); injection hv244_0 with hva_ hvn_ hvc_; rw [hva_] at ge244_0; rw [hvc_] at ul244_0; have HL244_0 := Aside0.mk (show Kd.V k46 46 _ w.heap.size _ _ (rd_L3 t232 0) from Kd.V_mk ul244_0 ge244_0); clear hva_ hvn_ hvc_ ge244_0 ul244_0; clear hcc244 hce244; have qi244 : (0 < t232.length) = True := eq_true (by omega); (try rw [show ((0 : Int)).toNat = 0 from rfl] at hx244_0); (try rw [Addr.add_zero'] at hx244_0); have HR244_0 := Aside0.mk hi244_0; have HC244_0 := Aside0.mk hl244_0; clear hi244_0 hl244_0; replace p244 := eq_true p244; replace q244 := eq_true q244; have p245 : 0 ≤ (0 : Int) := (by omega); have q245 : 0 < (t232.length : Int) := of_decide_eq_true (by first | (with_reducible assumption) | assumption); obtain ⟨ad245, A245_0, c245_0, e245, hx245_0, hl245_0, hi245_0⟩ := at_L3 (Kd.N_reads' HO234.out).2.2 0 p245 q245; obtain rfl : ad244 = ad245 := (by injection e245); obtain ⟨ce245, hce245, hMe245, hcc245⟩ := Kd.N_get HO234.out [] 0 p245 (by first | exact q245 | exact of_decide_eq_true (by first | (with_reducible assumption) | assumption) | (have e_ := (Kd.N_reads' HO234.out).1; omega)); obtain ⟨ua245_0, uc245_0, rfl, ul245_0, ge245_0⟩ := Kd.FK_slice_open hMe245; have hv245_0 := hcc245 0 _ rfl; rw [Nat.add_zero, show ((Kd.slice 46 k46)).sz = 1 from rfl, Nat.mul_one] at hv245_0; replace hv245_0 := Option.some.inj (hv245_0.symm.trans hx245_0); injection hv245_0 with hva_ hvn_ hvc_; rw [hva_] at ge245_0; rw [hvc_] at ul245_0; have HL245_0 := Aside0.mk (show Kd.V k46 46 _ w.heap.size _ _ (rd_L3 t232 0) from Kd.V_mk ul245_0 ge245_0); clear hva_ hvn_ hvc_ ge245_0 ul245_0; clear hcc245 hce245; have qi245 : (0 < t232.length) = True := eq_true (by omega); (try rw [show ((0 : Int)).toNat = 0 from rfl] at hx245_0); (try rw [Addr.add_zero'] at hx245_0); have HR245_0 := Aside0.mk hi245_0; have HC245_0 := Aside0.mk hl245_0; clear hi245_0 hl245_0; replace p245 := eq_true p245; replace q245 := eq_true q245; have ea_ := Option.some.inj (hx244_0.symm.trans hx245_0); injection ea_ with ea_ en_ ec_; subst ea_; subst ec_; clear en_; have p246 : 0 ≤ (1 : Int) := (by omega); have q246 : 1 < ((rd_L3 t232 0).length : Int) := of_decide_eq_true (by first | (with_reducible assumption) | assumption); obtain ⟨ad246, e246, hx246_0, hx246_1, hx246_2⟩ := at_T46 (by repeat (first | (with_reducible exact HR245_0.out) | (with_reducible refine Kd.C_alloc ?_ _) | (with_reducible refine Kd.C_drewN ?_ _) | (with_reducible refine Kd.C_drew ?_) | exact HR245_0.out)) 1 p246 q246; cases e246; (try simp only [show (1 : Int).toNat = 1 from rfl, Nat.reduceMul, Nat.reduceEqDiff, Go.Addr.add, ↓reduceIte] at hx246_0); (try simp only [show (1 : Int).toNat = 1 from rfl, Nat.reduceMul, Nat.reduceEqDiff, Go.Addr.add, ↓reduceIte] at hx246_1); (try simp only [show (1 : Int).toNat = 1 from rfl, Nat.reduceMul, Nat.reduceEqDiff, Go.Addr.add, ↓reduceIte] at hx246_2); have qi246 : (1 < (rd_L3 t232 0).length) = True := eq_true (by omega); (try rw [show ((1 : Int)).toNat = 1 from rfl] at hx246_0); (try rw [show 1 * 3 = 3 from rfl] at hx246_0); (try rw [show ((1 : Int)).toNat = 1 from rfl] at hx246_1); (try rw [show 1 * 3 = 3 from rfl] at hx246_1); (try rw [show ((1 : Int)).toNat = 1 from rfl] at hx246_2); (try rw [show 1 * 3 = 3 from rfl] at hx246_2); replace p246 := eq_true p246; replace q246 := eq_true q246; have p247 : 0 ≤ (0 : Int) := (by omega); have q247 : 0 < (t238.length : Int) := of_decide_eq_true (by first | (with_reducible assumption) | assumption); obtain ⟨ad247, e247, hx247_0, hx247_1, hx247_2, hx247_3⟩ := at_T48 (Kd.R_reads' HO240.out).2.2 0 p247 q247; (try rw [← Nbq11.out] at hx247_0); cases e247; have qi247 : (0 < t238.length) = True := eq_true (by omega); (try rw [show ((0 : Int)).toNat = 0 from rfl] at hx247_0); (try rw [show 0 * 4 = 0 from rfl] at hx247_0); (try rw [Addr.add_zero'] at hx247_0); (try rw [show ((0 : Int)).toNat = 0 from rfl] at hx247_1); (try rw [show 0 * 4 = 0 from rfl] at hx247_1); (try rw [Addr.add_zero'] at hx247_1); (try rw [show ((0 : Int)).toNat = 0 from rfl] at hx247_2); (try rw [show 0 * 4 = 0 from rfl] at hx247_2); (try rw [Addr.add_zero'] at hx247_2); (try rw [show ((0 : Int)).toNat = 0 from rfl] at hx247_3); (try rw [show 0 * 4 = 0 from rfl] at hx247_3); (try rw [Addr.add_zero'] at hx247_3); replace p247 := eq_true p247; replace q247 := eq_true q247; have p248 : 0 ≤ (0 : Int) := (by omega); have q248 : 0 < (t238.length : Int) := of_decide_eq_true (by first | (with_reducible assumption) | assumption); obtain ⟨ad248, e248, hx248_0, hx248_1, hx248_2, hx248_3⟩ := at_T48 (Kd.R_reads' HO240.out).2.2 0 p248 q248; (try rw [← Nbq11.out] at hx248_0); obtain rfl : ad247 = ad248 := (by injection e248); have qi248 : (0 < t238.length) = True := eq_true (by omega); (try rw [show ((0 : Int)).toNat = 0 from rfl] at hx248_0); (try rw [show 0 * 4 = 0 from rfl] at hx248_0); (try rw [Addr.add_zero'] at hx248_0); (try rw [show ((0 : Int)).toNat = 0 from rfl] at hx248_1); (try rw [show 0 * 4 = 0 from rfl] at hx248_1); (try rw [Addr.add_zero'] at hx248_1); (try rw [show ((0 : Int)).toNat = 0 from rfl] at hx248_2); (try rw [show 0 * 4 = 0 from rfl] at hx248_2); (try rw [Addr.add_zero'] at hx248_2); (try rw [show ((0 : Int)).toNat = 0 from rfl] at hx248_3); (try rw [show 0 * 4 = 0 from rfl] at hx248_3); (try rw [Addr.add_zero'] at hx248_3); replace p248 := eq_true p248; replace q248 := eq_true q248))
           go_ret
           exact ⟨by first | rfl | (simp [errW_none, errW_some] <;> rfl) | (simp [*, errW_none, errW_some] <;> rfl) | (simp [errW_none, errW_some, Go.Proofs.YtmocooihkobdjaaDoor.listNe]; done), by repeat (first | (with_reducible first | exact HB.out | apply below_alloc | apply pw_below_drewN | apply below_drew1 | refine below_set ?_ GE243.out) | exact HB.out)⟩
          ·replace c12 := Bool.eq_false_iff.mpr c12
           subst c12
           have H1 : (some false) = some r := by rw [if_neg (show ¬ (false = true) by decide)] at H; exact H
           clear H
           have H := H1
           clear H1
           obtain rfl := Option.some.inj H
           go_enter Tryd.func21, Tryd.ntmps21
           go_wp2_with (first | ((with_reducible refine gate_callee (f := 19) rfl ?_); refine goesL_ (some 5) rfl rfl Tryd.func19 (by kernel_rfl) rfl #[.string (⟨#[105, 110, 115, 116, 97, 108, 108, 32, 97, 97, 32, 124, 32, 98, 98, 10, 35, 32, 120, 10, 97, 118, 111, 105, 100, 32, 99, 99, 10]⟩ : ByteArray)] rfl (by (try simp only [List.map_toArray, List.map_cons, List.map_nil]); first | done | rfl | (simp only [List.length_drop, List.length_take]; rfl) | (simp; done)) ?_; (with_reducible refine (request_Read.calls k (⟨#[105, 110, 115, 116, 97, 108, 108, 32, 97, 97, 32, 124, 32, 98, 98, 10, 35, 32, 120, 10, 97, 118, 111, 105, 100, 32, 99, 99, 10]⟩ : ByteArray) t232 t235 t238 t241 t242 _ ?side1 A1.out).mono ?_); (case side1 => exact GG.below HG.out (W0 HB.out)); rintro e w21 ⟨v233, v236, v239, rfl, ho0, ho1, ho2, hb⟩; refine ⟨_, rfl, ?_⟩; have n0_ := Aside0.mk (Kd.N_lower (Kd.N_mono (ok' := fun k_ => some k_ ≠ (v236 : Value).ownBlock ∧ some k_ ≠ (v239 : Value).ownBlock) ho0 (fun k_ hk_ => ⟨hk_.2.1, hk_.2.2⟩)) (below_size (W0 HB.out))); have n1_ := Aside0.mk (Kd.R_lower (Kd.R_mono (ok' := fun k_ => True) ho1 (fun _ hk_ => trivial)) (below_size (W0 HB.out))); have n2_ := Aside0.mk (Kd.R_lower (Kd.R_mono (ok' := fun k_ => True) ho2 (fun _ hk_ => trivial)) (below_size (W0 HB.out))); have n3_ := Aside0.mk (below_step (W0 HB.out) hb); clear HB; have HO234 := n0_; have HO237 := n1_; have HO240 := n2_; have HB := n3_; clear n0_ n1_ n2_ n3_; (try clear hb); (try clear hb2); (try clear hk); (try clear hi); (try clear ho0); (try clear ho1); (try clear ho2)) | ((with_reducible refine gate_dst (N := 1) rfl ?_); (try (refine gate_guard (by rfl) ?_; dsimp only)); refine box_event ?hg (N := 1) ?hd (cs := #[.slice none 0 0, .slice none 0 0, .slice none 0 0]) (t := 26) ?hr ?_; (case hd => rfl); (case hg => rfl); (case hr => first | (go_simp; done) | (go_simp; rfl)); intro gb243 hg w22 hbox hb; have n0_ := Aside0.mk (Kd.N_below (Kd.N_elderB (Nq HO234.out) gb243 (Nat.le_of_eq hg.symm)) hb); have n1_ := Aside0.mk (Kd.R_below (Rq HO237.out) hb); have n2_ := Aside0.mk (Kd.R_below (Rq HO240.out) hb); have n3_ := Aside0.mk (below_step (W0 HB.out) hb); have n4_ := Aside0.mk (hbox); have n5_ := Aside0.mk ((by rw [hg]; exact (below_size (W0 HB.out)) : w.heap.size ≤ gb243)); have n6_ := Aside0.mk ((by rw [hg]; exact (below_size (W0 HB.out)) : w.heap.size ≤ gb243)); clear HO234; clear HO237; clear HO240; clear HB; have HO234 := n0_; have HO237 := n1_; have HO240 := n2_; have HB := n3_; have BK243 := n4_; have GW243 := n5_; have GE243 := n6_; clear n0_ n1_ n2_ n3_ n4_ n5_ n6_; clear hb hbox hg; obtain ⟨Ao23, co23, eo23⟩ := Kd.N_slice HO234.out; subst eo23; have hcz24_0 : w22.cell? ⟨gb243, 0, none⟩ = some (.slice none 0 0) := (blk_cell BK243.out 0).trans rfl; have hcz24_1 : w22.cell? ⟨gb243, 1, none⟩ = some (.slice none 0 0) := (blk_cell BK243.out 1).trans rfl; have hcz24_2 : w22.cell? ⟨gb243, 2, none⟩ = some (.slice none 0 0) := (blk_cell BK243.out 2).trans rfl; have hfz24_0 := blk_frozen BK243.out 0; have hfz24_1 := blk_frozen BK243.out 1; have hfz24_2 := blk_frozen BK243.out 2; obtain ⟨Ao25, co25, eo25⟩ := Kd.R_slice HO237.out; subst eo25; obtain ⟨Ao26, co26, eo26⟩ := Kd.R_slice HO240.out; subst eo26) | ((with_reducible refine gate_store (t := 26) (p := 1) rfl ?_); refine store_event (t := 26) (p := 1) (v := ?vo_w27) (w1 := (((w22.setCell ⟨gb243, 0, none⟩ (.slice Ao23 t232.length co23)).setCell ⟨gb243, 1, none⟩ (.slice Ao25 t235.length co25)).setCell ⟨gb243, 2, none⟩ (.slice Ao26 t238.length co26))) ?hg ?ho ?hn ?hr ?_; (case ho => rfl); (case hg => rfl); (case hn => rfl); (case hr => first | (go_simp; done) | (go_simp; rfl)); intro w27 hw; have n0_ : Aside0 (Kd.N (Kd.slice 46 k46) 23 w27 w.heap.size (fun k_ => some k_ ≠ (.slice Ao25 t235.length co25 : Value).ownBlock ∧ some k_ ≠ (.slice Ao26 t238.length co26 : Value).ownBlock ∧ k_ ≠ gb243) (.slice Ao23 t232.length co23) t232) := ⟨(by rw [hw]; exact (by (with_reducible repeat (first | apply Kd.N_alloc | apply Kd.N_drewN | apply Kd.N_drew)); exact Kd.N_mono (Kd.N_far (p := ⟨gb243, 2, none⟩) (Kd.N_far (p := ⟨gb243, 1, none⟩) (Kd.N_far (p := ⟨gb243, 0, none⟩) (Kd.N_mono HO234.out (fun k_ hk => (⟨hk, hk.2⟩ : _ ∧ k_ ≠ gb243))) (fun _ hk => hk.2) (.slice Ao23 t232.length co23)) (fun _ hk => hk.2) (.slice Ao25 t235.length co25)) (fun _ hk => hk.2) (.slice Ao26 t238.length co26)) (fun _ hk => ⟨hk.1.1.1, ⟨hk.1.1.2, hk.1.2⟩⟩)))⟩; have n1_ : Aside0 (Kd.R k46 46 w27 w.heap.size (fun _ => True) (.slice Ao25 t235.length co25) t235) := ⟨(by rw [hw]; exact (by (with_reducible repeat (first | apply Kd.R_alloc | apply Kd.R_drewN | apply Kd.R_drew)); exact Kd.R_mono (Kd.R_far (p := ⟨gb243, 2, none⟩) (Kd.R_far (p := ⟨gb243, 1, none⟩) (Kd.R_far (p := ⟨gb243, 0, none⟩) (Rt HO237.out BK243.out) (fun _ hk => hk.2) (.slice Ao23 t232.length co23)) (fun _ hk => hk.2) (.slice Ao25 t235.length co25)) (fun _ hk => hk.2) (.slice Ao26 t238.length co26)) (fun _ hk => trivial)))⟩; have n2_ : Aside0 (Kd.R k48 48 w27 w.heap.size (fun _ => True) (.slice Ao26 t238.length co26) t238) := ⟨(by rw [hw]; exact (by (with_reducible repeat (first | apply Kd.R_alloc | apply Kd.R_drewN | apply Kd.R_drew)); exact Kd.R_mono (Kd.R_far (p := ⟨gb243, 2, none⟩) (Kd.R_far (p := ⟨gb243, 1, none⟩) (Kd.R_far (p := ⟨gb243, 0, none⟩) (Rt HO240.out BK243.out) (fun _ hk => hk.2) (.slice Ao23 t232.length co23)) (fun _ hk => hk.2) (.slice Ao25 t235.length co25)) (fun _ hk => hk.2) (.slice Ao26 t238.length co26)) (fun _ hk => trivial)))⟩; have n3_ : Aside0 (w27.heap[gb243]? = some (.cells #[.slice Ao23 t232.length co23, .slice Ao25 t235.length co25, .slice Ao26 t238.length co26] 26 (0, 0))) := ⟨(by rw [hw]; exact (by (with_reducible repeat (first | refine blk_drewN ?_ _ | refine blk_drew ?_ | refine blk_alloc ?_ _)); refine blk_put (cs := #[.slice Ao23 t232.length co23, .slice Ao25 t235.length co25, .slice none 0 0]) ?_ 2 _ rfl; (with_reducible repeat (first | refine blk_drewN ?_ _ | refine blk_drew ?_ | refine blk_alloc ?_ _)); refine blk_put (cs := #[.slice Ao23 t232.length co23, .slice none 0 0, .slice none 0 0]) ?_ 1 _ rfl; (with_reducible repeat (first | refine blk_drewN ?_ _ | refine blk_drew ?_ | refine blk_alloc ?_ _)); refine blk_put (cs := #[.slice none 0 0, .slice none 0 0, .slice none 0 0]) ?_ 0 _ rfl; (with_reducible repeat (first | refine blk_drewN ?_ _ | refine blk_drew ?_ | refine blk_alloc ?_ _)); exact BK243.out))⟩; have n4_ : Aside0 (Below w.heap.size w w27) := ⟨(by rw [hw]; exact (W1 HB.out GE243.out))⟩; clear hw; clear HO234; clear HO237; clear HO240; clear BK243; clear HB; have HO234 := n0_; have HO237 := n1_; have HO240 := n2_; have BK243 := n3_; have HB := n4_; clear n0_ n1_ n2_ n3_ n4_; have hcz28_0 : w27.cell? ⟨gb243, 0, none⟩ = some (.slice Ao23 t232.length co23) := (blk_cell BK243.out 0).trans rfl; have hcz28_1 : w27.cell? ⟨gb243, 1, none⟩ = some (.slice Ao25 t235.length co25) := (blk_cell BK243.out 1).trans rfl; have hcz28_2 : w27.cell? ⟨gb243, 2, none⟩ = some (.slice Ao26 t238.length co26) := (blk_cell BK243.out 2).trans rfl; have hfz28_0 := blk_frozen BK243.out 0; have hfz28_1 := blk_frozen BK243.out 1; have hfz28_2 := blk_frozen BK243.out 2; have p244 : 0 ≤ (0 : Int) := (by omega); have q244 : 0 < (t232.length : Int) := of_decide_eq_true (by first | (with_reducible assumption) | assumption); obtain ⟨ad244, A244_0, c244_0, e244, hx244_0, hl244_0, hi244_0⟩ := at_L3 (Kd.N_reads' HO234.out).2.2 0 p244 q244; cases e244; obtain ⟨ce244, hce244, hMe244, hcc244⟩ := Kd.N_get HO234.out [] 0 p244 (by first | exact q244 | exact of_decide_eq_true (by first | (with_reducible assumption) | assumption) | (have e_ := (Kd.N_reads' HO234.out).1; omega)); obtain ⟨ua244_0, uc244_0, rfl, ul244_0, ge244_0⟩ := Kd.FK_slice_open hMe244; have hv244_0 := hcc244 0 _ rfl; rw [Nat.add_zero, show ((Kd.slice 46 k46)).sz = 1 from rfl, Nat.mul_one] at hv244_0; replace hv244_0 := Option.some.inj (hv244_0.symm.trans hx244_0); injection hv244_0 with hva_ hvn_ hvc_; rw [hva_] at ge244_0; rw [hvc_] at ul244_0; have HL244_0 := Aside0.mk (show Kd.V k46 46 _ w.heap.size _ _ (rd_L3 t232 0) from Kd.V_mk ul244_0 ge244_0); clear hva_ hvn_ hvc_ ge244_0 ul244_0; clear hcc244 hce244; have qi244 : (0 < t232.length) = True := eq_true (by omega); (try rw [show ((0 : Int)).toNat = 0 from rfl] at hx244_0); (try rw [Addr.add_zero'] at hx244_0); have HR244_0 := Aside0.mk hi244_0; have HC244_0 := Aside0.mk hl244_0; clear hi244_0 hl244_0; replace p244 := eq_true p244; replace q244 := eq_true q244; have p245 : 0 ≤ (0 : Int) := (by omega); have q245 : 0 < (t232.length : Int) := of_decide_eq_true (by first | (with_reducible assumption) | assumption); obtain ⟨ad245, A245_0, c245_0, e245, hx245_0, hl245_0, hi245_0⟩ := at_L3 (Kd.N_reads' HO234.out).2.2 0 p245 q245; obtain rfl : ad244 = ad245 := (by injection e245); obtain ⟨ce245, hce245, hMe245, hcc245⟩ := Kd.N_get HO234.out [] 0 p245 (by first | exact q245 | exact of_decide_eq_true (by first | (with_reducible assumption) | assumption) | (have e_ := (Kd.N_reads' HO234.out).1; omega)); obtain ⟨ua245_0, uc245_0, rfl, ul245_0, ge245_0⟩ := Kd.FK_slice_open hMe245; have hv245_0 := hcc245 0 _ rfl; rw [Nat.add_zero, show ((Kd.slice 46 k46)).sz = 1 from rfl, Nat.mul_one] at hv245_0; replace hv245_0 := Option.some.inj (hv245_0.symm.trans hx245_0); injection hv245_0 with hva_ hvn_ hvc_; rw [hva_] at ge245_0; rw [hvc_] at ul245_0; have HL245_0 := Aside0.mk (show Kd.V k46 46 _ w.heap.size _ _ (rd_L3 t232 0) from Kd.V_mk ul245_0 ge245_0); clear hva_ hvn_ hvc_ ge245_0 ul245_0; clear hcc245 hce245; have qi245 : (0 < t232.length) = True := eq_true (by omega); (try rw [show ((0 : Int)).toNat = 0 from rfl] at hx245_0); (try rw [Addr.add_zero'] at hx245_0); have HR245_0 := Aside0.mk hi245_0; have HC245_0 := Aside0.mk hl245_0; clear hi245_0 hl245_0; replace p245 := eq_true p245; replace q245 := eq_true q245; have ea_ := Option.some.inj (hx244_0.symm.trans hx245_0); injection ea_ with ea_ en_ ec_; subst ea_; subst ec_; clear en_; have p246 : 0 ≤ (1 : Int) := (by omega); have q246 : 1 < ((rd_L3 t232 0).length : Int) := of_decide_eq_true (by first | (with_reducible assumption) | assumption); obtain ⟨ad246, e246, hx246_0, hx246_1, hx246_2⟩ := at_T46 (by repeat (first | (with_reducible exact HR245_0.out) | (with_reducible refine Kd.C_alloc ?_ _) | (with_reducible refine Kd.C_drewN ?_ _) | (with_reducible refine Kd.C_drew ?_) | exact HR245_0.out)) 1 p246 q246; cases e246; (try simp only [show (1 : Int).toNat = 1 from rfl, Nat.reduceMul, Nat.reduceEqDiff, Go.Addr.add, ↓reduceIte] at hx246_0); (try simp only [show (1 : Int).toNat = 1 from rfl, Nat.reduceMul, Nat.reduceEqDiff, Go.Addr.add, ↓reduceIte] at hx246_1); (try simp only [show (1 : Int).toNat = 1 from rfl, Nat.reduceMul, Nat.reduceEqDiff, Go.Addr.add, ↓reduceIte] at hx246_2); have qi246 : (1 < (rd_L3 t232 0).length) = True := eq_true (by omega); (try rw [show ((1 : Int)).toNat = 1 from rfl] at hx246_0); (try rw [show 1 * 3 = 3 from rfl] at hx246_0); (try rw [show ((1 : Int)).toNat = 1 from rfl] at hx246_1); (try rw [show 1 * 3 = 3 from rfl] at hx246_1); (try rw [show ((1 : Int)).toNat = 1 from rfl] at hx246_2); (try rw [show 1 * 3 = 3 from rfl] at hx246_2); replace p246 := eq_true p246; replace q246 := eq_true q246; have p247 : 0 ≤ (0 : Int) := (by omega); have q247 : 0 < (t238.length : Int) := of_decide_eq_true (by first | (with_reducible assumption) | assumption); obtain ⟨ad247, e247, hx247_0, hx247_1, hx247_2, hx247_3⟩ := at_T48 (Kd.R_reads' HO240.out).2.2 0 p247 q247; (try rw [← Nbq11.out] at hx247_0); cases e247; have qi247 : (0 < t238.length) = True := eq_true (by omega); (try rw [show ((0 : Int)).toNat = 0 from rfl] at hx247_0); (try rw [show 0 * 4 = 0 from rfl] at hx247_0); (try rw [Addr.add_zero'] at hx247_0); (try rw [show ((0 : Int)).toNat = 0 from rfl] at hx247_1); (try rw [show 0 * 4 = 0 from rfl] at hx247_1); (try rw [Addr.add_zero'] at hx247_1); (try rw [show ((0 : Int)).toNat = 0 from rfl] at hx247_2); (try rw [show 0 * 4 = 0 from rfl] at hx247_2); (try rw [Addr.add_zero'] at hx247_2); (try rw [show ((0 : Int)).toNat = 0 from rfl] at hx247_3); (try rw [show 0 * 4 = 0 from rfl] at hx247_3); (try rw [Addr.add_zero'] at hx247_3); replace p247 := eq_true p247; replace q247 := eq_true q247))
           go_ret
           exact ⟨by first | rfl | (simp [errW_none, errW_some] <;> rfl) | (simp [*, errW_none, errW_some] <;> rfl) | (simp [errW_none, errW_some, Go.Proofs.YtmocooihkobdjaaDoor.listNe]; done), by repeat (first | (with_reducible first | exact HB.out | apply below_alloc | apply pw_below_drewN | apply below_drew1 | refine below_set ?_ GE243.out) | exact HB.out)⟩
         ·rw [if_neg c10] at H
          exact absurd H (by simp)
        ·rw [if_neg c9] at H
         have c9b0 : ((t238.length : Int) == 1) = false := beq_eq_false_iff_ne.mpr c9
         have c9b1 : ((t238.length : Int) != 1) = true := bne_iff_ne.mpr c9
         obtain rfl := Option.some.inj H
         go_enter Tryd.func21, Tryd.ntmps21
         go_wp2_with (first | ((with_reducible refine gate_callee (f := 19) rfl ?_); refine goesL_ (some 5) rfl rfl Tryd.func19 (by kernel_rfl) rfl #[.string (⟨#[105, 110, 115, 116, 97, 108, 108, 32, 97, 97, 32, 124, 32, 98, 98, 10, 35, 32, 120, 10, 97, 118, 111, 105, 100, 32, 99, 99, 10]⟩ : ByteArray)] rfl (by (try simp only [List.map_toArray, List.map_cons, List.map_nil]); first | done | rfl | (simp only [List.length_drop, List.length_take]; rfl) | (simp; done)) ?_; (with_reducible refine (request_Read.calls k (⟨#[105, 110, 115, 116, 97, 108, 108, 32, 97, 97, 32, 124, 32, 98, 98, 10, 35, 32, 120, 10, 97, 118, 111, 105, 100, 32, 99, 99, 10]⟩ : ByteArray) t232 t235 t238 t241 t242 _ ?side1 A1.out).mono ?_); (case side1 => exact GG.below HG.out (W0 HB.out)); rintro e w29 ⟨v233, v236, v239, rfl, ho0, ho1, ho2, hb⟩; refine ⟨_, rfl, ?_⟩; have n0_ := Aside0.mk (Kd.N_lower (Kd.N_mono (ok' := fun k_ => some k_ ≠ (v236 : Value).ownBlock ∧ some k_ ≠ (v239 : Value).ownBlock) ho0 (fun k_ hk_ => ⟨hk_.2.1, hk_.2.2⟩)) (below_size (W0 HB.out))); have n1_ := Aside0.mk (Kd.R_lower (Kd.R_mono (ok' := fun k_ => True) ho1 (fun _ hk_ => trivial)) (below_size (W0 HB.out))); have n2_ := Aside0.mk (Kd.R_lower (Kd.R_mono (ok' := fun k_ => True) ho2 (fun _ hk_ => trivial)) (below_size (W0 HB.out))); have n3_ := Aside0.mk (below_step (W0 HB.out) hb); clear HB; have HO234 := n0_; have HO237 := n1_; have HO240 := n2_; have HB := n3_; clear n0_ n1_ n2_ n3_; (try clear hb); (try clear hb2); (try clear hk); (try clear hi); (try clear ho0); (try clear ho1); (try clear ho2)) | ((with_reducible refine gate_dst (N := 1) rfl ?_); (try (refine gate_guard (by rfl) ?_; dsimp only)); refine box_event ?hg (N := 1) ?hd (cs := #[.slice none 0 0, .slice none 0 0, .slice none 0 0]) (t := 26) ?hr ?_; (case hd => rfl); (case hg => rfl); (case hr => first | (go_simp; done) | (go_simp; rfl)); intro gb243 hg w30 hbox hb; have n0_ := Aside0.mk (Kd.N_below (Kd.N_elderB (Nq HO234.out) gb243 (Nat.le_of_eq hg.symm)) hb); have n1_ := Aside0.mk (Kd.R_below (Rq HO237.out) hb); have n2_ := Aside0.mk (Kd.R_below (Rq HO240.out) hb); have n3_ := Aside0.mk (below_step (W0 HB.out) hb); have n4_ := Aside0.mk (hbox); have n5_ := Aside0.mk ((by rw [hg]; exact (below_size (W0 HB.out)) : w.heap.size ≤ gb243)); have n6_ := Aside0.mk ((by rw [hg]; exact (below_size (W0 HB.out)) : w.heap.size ≤ gb243)); clear HO234; clear HO237; clear HO240; clear HB; have HO234 := n0_; have HO237 := n1_; have HO240 := n2_; have HB := n3_; have BK243 := n4_; have GW243 := n5_; have GE243 := n6_; clear n0_ n1_ n2_ n3_ n4_ n5_ n6_; clear hb hbox hg; obtain ⟨Ao31, co31, eo31⟩ := Kd.N_slice HO234.out; subst eo31; have hcz32_0 : w30.cell? ⟨gb243, 0, none⟩ = some (.slice none 0 0) := (blk_cell BK243.out 0).trans rfl; have hcz32_1 : w30.cell? ⟨gb243, 1, none⟩ = some (.slice none 0 0) := (blk_cell BK243.out 1).trans rfl; have hcz32_2 : w30.cell? ⟨gb243, 2, none⟩ = some (.slice none 0 0) := (blk_cell BK243.out 2).trans rfl; have hfz32_0 := blk_frozen BK243.out 0; have hfz32_1 := blk_frozen BK243.out 1; have hfz32_2 := blk_frozen BK243.out 2; obtain ⟨Ao33, co33, eo33⟩ := Kd.R_slice HO237.out; subst eo33; obtain ⟨Ao34, co34, eo34⟩ := Kd.R_slice HO240.out; subst eo34) | ((with_reducible refine gate_store (t := 26) (p := 1) rfl ?_); refine store_event (t := 26) (p := 1) (v := ?vo_w35) (w1 := (((w30.setCell ⟨gb243, 0, none⟩ (.slice Ao31 t232.length co31)).setCell ⟨gb243, 1, none⟩ (.slice Ao33 t235.length co33)).setCell ⟨gb243, 2, none⟩ (.slice Ao34 t238.length co34))) ?hg ?ho ?hn ?hr ?_; (case ho => rfl); (case hg => rfl); (case hn => rfl); (case hr => first | (go_simp; done) | (go_simp; rfl)); intro w35 hw; have n0_ : Aside0 (Kd.N (Kd.slice 46 k46) 23 w35 w.heap.size (fun k_ => some k_ ≠ (.slice Ao33 t235.length co33 : Value).ownBlock ∧ some k_ ≠ (.slice Ao34 t238.length co34 : Value).ownBlock ∧ k_ ≠ gb243) (.slice Ao31 t232.length co31) t232) := ⟨(by rw [hw]; exact (by (with_reducible repeat (first | apply Kd.N_alloc | apply Kd.N_drewN | apply Kd.N_drew)); exact Kd.N_mono (Kd.N_far (p := ⟨gb243, 2, none⟩) (Kd.N_far (p := ⟨gb243, 1, none⟩) (Kd.N_far (p := ⟨gb243, 0, none⟩) (Kd.N_mono HO234.out (fun k_ hk => (⟨hk, hk.2⟩ : _ ∧ k_ ≠ gb243))) (fun _ hk => hk.2) (.slice Ao31 t232.length co31)) (fun _ hk => hk.2) (.slice Ao33 t235.length co33)) (fun _ hk => hk.2) (.slice Ao34 t238.length co34)) (fun _ hk => ⟨hk.1.1.1, ⟨hk.1.1.2, hk.1.2⟩⟩)))⟩; have n1_ : Aside0 (Kd.R k46 46 w35 w.heap.size (fun _ => True) (.slice Ao33 t235.length co33) t235) := ⟨(by rw [hw]; exact (by (with_reducible repeat (first | apply Kd.R_alloc | apply Kd.R_drewN | apply Kd.R_drew)); exact Kd.R_mono (Kd.R_far (p := ⟨gb243, 2, none⟩) (Kd.R_far (p := ⟨gb243, 1, none⟩) (Kd.R_far (p := ⟨gb243, 0, none⟩) (Rt HO237.out BK243.out) (fun _ hk => hk.2) (.slice Ao31 t232.length co31)) (fun _ hk => hk.2) (.slice Ao33 t235.length co33)) (fun _ hk => hk.2) (.slice Ao34 t238.length co34)) (fun _ hk => trivial)))⟩; have n2_ : Aside0 (Kd.R k48 48 w35 w.heap.size (fun _ => True) (.slice Ao34 t238.length co34) t238) := ⟨(by rw [hw]; exact (by (with_reducible repeat (first | apply Kd.R_alloc | apply Kd.R_drewN | apply Kd.R_drew)); exact Kd.R_mono (Kd.R_far (p := ⟨gb243, 2, none⟩) (Kd.R_far (p := ⟨gb243, 1, none⟩) (Kd.R_far (p := ⟨gb243, 0, none⟩) (Rt HO240.out BK243.out) (fun _ hk => hk.2) (.slice Ao31 t232.length co31)) (fun _ hk => hk.2) (.slice Ao33 t235.length co33)) (fun _ hk => hk.2) (.slice Ao34 t238.length co34)) (fun _ hk => trivial)))⟩; have n3_ : Aside0 (w35.heap[gb243]? = some (.cells #[.slice Ao31 t232.length co31, .slice Ao33 t235.length co33, .slice Ao34 t238.length co34] 26 (0, 0))) := ⟨(by rw [hw]; exact (by (with_reducible repeat (first | refine blk_drewN ?_ _ | refine blk_drew ?_ | refine blk_alloc ?_ _)); refine blk_put (cs := #[.slice Ao31 t232.length co31, .slice Ao33 t235.length co33, .slice none 0 0]) ?_ 2 _ rfl; (with_reducible repeat (first | refine blk_drewN ?_ _ | refine blk_drew ?_ | refine blk_alloc ?_ _)); refine blk_put (cs := #[.slice Ao31 t232.length co31, .slice none 0 0, .slice none 0 0]) ?_ 1 _ rfl; (with_reducible repeat (first | refine blk_drewN ?_ _ | refine blk_drew ?_ | refine blk_alloc ?_ _)); refine blk_put (cs := #[.slice none 0 0, .slice none 0 0, .slice none 0 0]) ?_ 0 _ rfl; (with_reducible repeat (first | refine blk_drewN ?_ _ | refine blk_drew ?_ | refine blk_alloc ?_ _)); exact BK243.out))⟩; have n4_ : Aside0 (Below w.heap.size w w35) := ⟨(by rw [hw]; exact (W1 HB.out GE243.out))⟩; clear hw; clear HO234; clear HO237; clear HO240; clear BK243; clear HB; have HO234 := n0_; have HO237 := n1_; have HO240 := n2_; have BK243 := n3_; have HB := n4_; clear n0_ n1_ n2_ n3_ n4_; have hcz36_0 : w35.cell? ⟨gb243, 0, none⟩ = some (.slice Ao31 t232.length co31) := (blk_cell BK243.out 0).trans rfl; have hcz36_1 : w35.cell? ⟨gb243, 1, none⟩ = some (.slice Ao33 t235.length co33) := (blk_cell BK243.out 1).trans rfl; have hcz36_2 : w35.cell? ⟨gb243, 2, none⟩ = some (.slice Ao34 t238.length co34) := (blk_cell BK243.out 2).trans rfl; have hfz36_0 := blk_frozen BK243.out 0; have hfz36_1 := blk_frozen BK243.out 1; have hfz36_2 := blk_frozen BK243.out 2; have p244 : 0 ≤ (0 : Int) := (by omega); have q244 : 0 < (t232.length : Int) := of_decide_eq_true (by first | (with_reducible assumption) | assumption); obtain ⟨ad244, A244_0, c244_0, e244, hx244_0, hl244_0, hi244_0⟩ := at_L3 (Kd.N_reads' HO234.out).2.2 0 p244 q244; cases e244; obtain ⟨ce244, hce244, hMe244, hcc244⟩ := Kd.N_get HO234.out [] 0 p244 (by first | exact q244 | exact of_decide_eq_true (by first | (with_reducible assumption) | assumption) | (have e_ := (Kd.N_reads' HO234.out).1; omega)); obtain ⟨ua244_0, uc244_0, rfl, ul244_0, ge244_0⟩ := Kd.FK_slice_open hMe244; have hv244_0 := hcc244 0 _ rfl; rw [Nat.add_zero, show ((Kd.slice 46 k46)).sz = 1 from rfl, Nat.mul_one] at hv244_0; replace hv244_0 := Option.some.inj (hv244_0.symm.trans hx244_0); injection hv244_0 with hva_ hvn_ hvc_; rw [hva_] at ge244_0; rw [hvc_] at ul244_0; have HL244_0 := Aside0.mk (show Kd.V k46 46 _ w.heap.size _ _ (rd_L3 t232 0) from Kd.V_mk ul244_0 ge244_0); clear hva_ hvn_ hvc_ ge244_0 ul244_0; clear hcc244 hce244; have qi244 : (0 < t232.length) = True := eq_true (by omega); (try rw [show ((0 : Int)).toNat = 0 from rfl] at hx244_0); (try rw [Addr.add_zero'] at hx244_0); have HR244_0 := Aside0.mk hi244_0; have HC244_0 := Aside0.mk hl244_0; clear hi244_0 hl244_0; replace p244 := eq_true p244; replace q244 := eq_true q244; have p245 : 0 ≤ (0 : Int) := (by omega); have q245 : 0 < (t232.length : Int) := of_decide_eq_true (by first | (with_reducible assumption) | assumption); obtain ⟨ad245, A245_0, c245_0, e245, hx245_0, hl245_0, hi245_0⟩ := at_L3 (Kd.N_reads' HO234.out).2.2 0 p245 q245; obtain rfl : ad244 = ad245 := (by injection e245); obtain ⟨ce245, hce245, hMe245, hcc245⟩ := Kd.N_get HO234.out [] 0 p245 (by first | exact q245 | exact of_decide_eq_true (by first | (with_reducible assumption) | assumption) | (have e_ := (Kd.N_reads' HO234.out).1; omega)); obtain ⟨ua245_0, uc245_0, rfl, ul245_0, ge245_0⟩ := Kd.FK_slice_open hMe245; have hv245_0 := hcc245 0 _ rfl; rw [Nat.add_zero, show ((Kd.slice 46 k46)).sz = 1 from rfl, Nat.mul_one] at hv245_0; replace hv245_0 := Option.some.inj (hv245_0.symm.trans hx245_0); injection hv245_0 with hva_ hvn_ hvc_; rw [hva_] at ge245_0; rw [hvc_] at ul245_0; have HL245_0 := Aside0.mk (show Kd.V k46 46 _ w.heap.size _ _ (rd_L3 t232 0) from Kd.V_mk ul245_0 ge245_0); clear hva_ hvn_ hvc_ ge245_0 ul245_0; clear hcc245 hce245; have qi245 : (0 < t232.length) = True := eq_true (by omega); (try rw [show ((0 : Int)).toNat = 0 from rfl] at hx245_0); (try rw [Addr.add_zero'] at hx245_0); have HR245_0 := Aside0.mk hi245_0; have HC245_0 := Aside0.mk hl245_0; clear hi245_0 hl245_0; replace p245 := eq_true p245; replace q245 := eq_true q245; have ea_ := Option.some.inj (hx244_0.symm.trans hx245_0); injection ea_ with ea_ en_ ec_; subst ea_; subst ec_; clear en_; have p246 : 0 ≤ (1 : Int) := (by omega); have q246 : 1 < ((rd_L3 t232 0).length : Int) := of_decide_eq_true (by first | (with_reducible assumption) | assumption); obtain ⟨ad246, e246, hx246_0, hx246_1, hx246_2⟩ := at_T46 (by repeat (first | (with_reducible exact HR245_0.out) | (with_reducible refine Kd.C_alloc ?_ _) | (with_reducible refine Kd.C_drewN ?_ _) | (with_reducible refine Kd.C_drew ?_) | exact HR245_0.out)) 1 p246 q246; cases e246; (try simp only [show (1 : Int).toNat = 1 from rfl, Nat.reduceMul, Nat.reduceEqDiff, Go.Addr.add, ↓reduceIte] at hx246_0); (try simp only [show (1 : Int).toNat = 1 from rfl, Nat.reduceMul, Nat.reduceEqDiff, Go.Addr.add, ↓reduceIte] at hx246_1); (try simp only [show (1 : Int).toNat = 1 from rfl, Nat.reduceMul, Nat.reduceEqDiff, Go.Addr.add, ↓reduceIte] at hx246_2); have qi246 : (1 < (rd_L3 t232 0).length) = True := eq_true (by omega); (try rw [show ((1 : Int)).toNat = 1 from rfl] at hx246_0); (try rw [show 1 * 3 = 3 from rfl] at hx246_0); (try rw [show ((1 : Int)).toNat = 1 from rfl] at hx246_1); (try rw [show 1 * 3 = 3 from rfl] at hx246_1); (try rw [show ((1 : Int)).toNat = 1 from rfl] at hx246_2); (try rw [show 1 * 3 = 3 from rfl] at hx246_2); replace p246 := eq_true p246; replace q246 := eq_true q246))
         go_ret
         exact ⟨by first | rfl | (simp [errW_none, errW_some] <;> rfl) | (simp [*, errW_none, errW_some] <;> rfl) | (simp [errW_none, errW_some, Go.Proofs.YtmocooihkobdjaaDoor.listNe]; done), by repeat (first | (with_reducible first | exact HB.out | apply below_alloc | apply pw_below_drewN | apply below_drew1 | refine below_set ?_ GE243.out) | exact HB.out)⟩
       ·rw [if_neg c8] at H
        have c8b0 : (((rd_T46 (rd_L3 t232 0) 1).f0).toList == ([98, 98] : List UInt8)) = false := beq_eq_false_iff_ne.mpr c8
        have c8b1 : (((rd_T46 (rd_L3 t232 0) 1).f0).toList != ([98, 98] : List UInt8)) = true := bne_iff_ne.mpr c8
        obtain rfl := Option.some.inj H
        go_enter Tryd.func21, Tryd.ntmps21
        go_wp2_with (first | ((with_reducible refine gate_callee (f := 19) rfl ?_); refine goesL_ (some 5) rfl rfl Tryd.func19 (by kernel_rfl) rfl #[.string (⟨#[105, 110, 115, 116, 97, 108, 108, 32, 97, 97, 32, 124, 32, 98, 98, 10, 35, 32, 120, 10, 97, 118, 111, 105, 100, 32, 99, 99, 10]⟩ : ByteArray)] rfl (by (try simp only [List.map_toArray, List.map_cons, List.map_nil]); first | done | rfl | (simp only [List.length_drop, List.length_take]; rfl) | (simp; done)) ?_; (with_reducible refine (request_Read.calls k (⟨#[105, 110, 115, 116, 97, 108, 108, 32, 97, 97, 32, 124, 32, 98, 98, 10, 35, 32, 120, 10, 97, 118, 111, 105, 100, 32, 99, 99, 10]⟩ : ByteArray) t232 t235 t238 t241 t242 _ ?side1 A1.out).mono ?_); (case side1 => exact GG.below HG.out (W0 HB.out)); rintro e w37 ⟨v233, v236, v239, rfl, ho0, ho1, ho2, hb⟩; refine ⟨_, rfl, ?_⟩; have n0_ := Aside0.mk (Kd.N_lower (Kd.N_mono (ok' := fun k_ => some k_ ≠ (v236 : Value).ownBlock ∧ some k_ ≠ (v239 : Value).ownBlock) ho0 (fun k_ hk_ => ⟨hk_.2.1, hk_.2.2⟩)) (below_size (W0 HB.out))); have n1_ := Aside0.mk (Kd.R_lower (Kd.R_mono (ok' := fun k_ => True) ho1 (fun _ hk_ => trivial)) (below_size (W0 HB.out))); have n2_ := Aside0.mk (Kd.R_lower (Kd.R_mono (ok' := fun k_ => True) ho2 (fun _ hk_ => trivial)) (below_size (W0 HB.out))); have n3_ := Aside0.mk (below_step (W0 HB.out) hb); clear HB; have HO234 := n0_; have HO237 := n1_; have HO240 := n2_; have HB := n3_; clear n0_ n1_ n2_ n3_; (try clear hb); (try clear hb2); (try clear hk); (try clear hi); (try clear ho0); (try clear ho1); (try clear ho2)) | ((with_reducible refine gate_dst (N := 1) rfl ?_); (try (refine gate_guard (by rfl) ?_; dsimp only)); refine box_event ?hg (N := 1) ?hd (cs := #[.slice none 0 0, .slice none 0 0, .slice none 0 0]) (t := 26) ?hr ?_; (case hd => rfl); (case hg => rfl); (case hr => first | (go_simp; done) | (go_simp; rfl)); intro gb243 hg w38 hbox hb; have n0_ := Aside0.mk (Kd.N_below (Kd.N_elderB (Nq HO234.out) gb243 (Nat.le_of_eq hg.symm)) hb); have n1_ := Aside0.mk (Kd.R_below (Rq HO237.out) hb); have n2_ := Aside0.mk (Kd.R_below (Rq HO240.out) hb); have n3_ := Aside0.mk (below_step (W0 HB.out) hb); have n4_ := Aside0.mk (hbox); have n5_ := Aside0.mk ((by rw [hg]; exact (below_size (W0 HB.out)) : w.heap.size ≤ gb243)); have n6_ := Aside0.mk ((by rw [hg]; exact (below_size (W0 HB.out)) : w.heap.size ≤ gb243)); clear HO234; clear HO237; clear HO240; clear HB; have HO234 := n0_; have HO237 := n1_; have HO240 := n2_; have HB := n3_; have BK243 := n4_; have GW243 := n5_; have GE243 := n6_; clear n0_ n1_ n2_ n3_ n4_ n5_ n6_; clear hb hbox hg; obtain ⟨Ao39, co39, eo39⟩ := Kd.N_slice HO234.out; subst eo39; have hcz40_0 : w38.cell? ⟨gb243, 0, none⟩ = some (.slice none 0 0) := (blk_cell BK243.out 0).trans rfl; have hcz40_1 : w38.cell? ⟨gb243, 1, none⟩ = some (.slice none 0 0) := (blk_cell BK243.out 1).trans rfl; have hcz40_2 : w38.cell? ⟨gb243, 2, none⟩ = some (.slice none 0 0) := (blk_cell BK243.out 2).trans rfl; have hfz40_0 := blk_frozen BK243.out 0; have hfz40_1 := blk_frozen BK243.out 1; have hfz40_2 := blk_frozen BK243.out 2; obtain ⟨Ao41, co41, eo41⟩ := Kd.R_slice HO237.out; subst eo41; obtain ⟨Ao42, co42, eo42⟩ := Kd.R_slice HO240.out; subst eo42) | ((with_reducible refine gate_store (t := 26) (p := 1) rfl ?_); refine store_event (t := 26) (p := 1) (v := ?vo_w43) (w1 := (((w38.setCell ⟨gb243, 0, none⟩ (.slice Ao39 t232.length co39)).setCell ⟨gb243, 1, none⟩ (.slice Ao41 t235.length co41)).setCell ⟨gb243, 2, none⟩ (.slice Ao42 t238.length co42))) ?hg ?ho ?hn ?hr ?_; (case ho => rfl); (case hg => rfl); (case hn => rfl); (case hr => first | (go_simp; done) | (go_simp; rfl)); intro w43 hw; have n0_ : Aside0 (Kd.N (Kd.slice 46 k46) 23 w43 w.heap.size (fun k_ => some k_ ≠ (.slice Ao41 t235.length co41 : Value).ownBlock ∧ some k_ ≠ (.slice Ao42 t238.length co42 : Value).ownBlock ∧ k_ ≠ gb243) (.slice Ao39 t232.length co39) t232) := ⟨(by rw [hw]; exact (by (with_reducible repeat (first | apply Kd.N_alloc | apply Kd.N_drewN | apply Kd.N_drew)); exact Kd.N_mono (Kd.N_far (p := ⟨gb243, 2, none⟩) (Kd.N_far (p := ⟨gb243, 1, none⟩) (Kd.N_far (p := ⟨gb243, 0, none⟩) (Kd.N_mono HO234.out (fun k_ hk => (⟨hk, hk.2⟩ : _ ∧ k_ ≠ gb243))) (fun _ hk => hk.2) (.slice Ao39 t232.length co39)) (fun _ hk => hk.2) (.slice Ao41 t235.length co41)) (fun _ hk => hk.2) (.slice Ao42 t238.length co42)) (fun _ hk => ⟨hk.1.1.1, ⟨hk.1.1.2, hk.1.2⟩⟩)))⟩; have n1_ : Aside0 (Kd.R k46 46 w43 w.heap.size (fun _ => True) (.slice Ao41 t235.length co41) t235) := ⟨(by rw [hw]; exact (by (with_reducible repeat (first | apply Kd.R_alloc | apply Kd.R_drewN | apply Kd.R_drew)); exact Kd.R_mono (Kd.R_far (p := ⟨gb243, 2, none⟩) (Kd.R_far (p := ⟨gb243, 1, none⟩) (Kd.R_far (p := ⟨gb243, 0, none⟩) (Rt HO237.out BK243.out) (fun _ hk => hk.2) (.slice Ao39 t232.length co39)) (fun _ hk => hk.2) (.slice Ao41 t235.length co41)) (fun _ hk => hk.2) (.slice Ao42 t238.length co42)) (fun _ hk => trivial)))⟩; have n2_ : Aside0 (Kd.R k48 48 w43 w.heap.size (fun _ => True) (.slice Ao42 t238.length co42) t238) := ⟨(by rw [hw]; exact (by (with_reducible repeat (first | apply Kd.R_alloc | apply Kd.R_drewN | apply Kd.R_drew)); exact Kd.R_mono (Kd.R_far (p := ⟨gb243, 2, none⟩) (Kd.R_far (p := ⟨gb243, 1, none⟩) (Kd.R_far (p := ⟨gb243, 0, none⟩) (Rt HO240.out BK243.out) (fun _ hk => hk.2) (.slice Ao39 t232.length co39)) (fun _ hk => hk.2) (.slice Ao41 t235.length co41)) (fun _ hk => hk.2) (.slice Ao42 t238.length co42)) (fun _ hk => trivial)))⟩; have n3_ : Aside0 (w43.heap[gb243]? = some (.cells #[.slice Ao39 t232.length co39, .slice Ao41 t235.length co41, .slice Ao42 t238.length co42] 26 (0, 0))) := ⟨(by rw [hw]; exact (by (with_reducible repeat (first | refine blk_drewN ?_ _ | refine blk_drew ?_ | refine blk_alloc ?_ _)); refine blk_put (cs := #[.slice Ao39 t232.length co39, .slice Ao41 t235.length co41, .slice none 0 0]) ?_ 2 _ rfl; (with_reducible repeat (first | refine blk_drewN ?_ _ | refine blk_drew ?_ | refine blk_alloc ?_ _)); refine blk_put (cs := #[.slice Ao39 t232.length co39, .slice none 0 0, .slice none 0 0]) ?_ 1 _ rfl; (with_reducible repeat (first | refine blk_drewN ?_ _ | refine blk_drew ?_ | refine blk_alloc ?_ _)); refine blk_put (cs := #[.slice none 0 0, .slice none 0 0, .slice none 0 0]) ?_ 0 _ rfl; (with_reducible repeat (first | refine blk_drewN ?_ _ | refine blk_drew ?_ | refine blk_alloc ?_ _)); exact BK243.out))⟩; have n4_ : Aside0 (Below w.heap.size w w43) := ⟨(by rw [hw]; exact (W1 HB.out GE243.out))⟩; clear hw; clear HO234; clear HO237; clear HO240; clear BK243; clear HB; have HO234 := n0_; have HO237 := n1_; have HO240 := n2_; have BK243 := n3_; have HB := n4_; clear n0_ n1_ n2_ n3_ n4_; have hcz44_0 : w43.cell? ⟨gb243, 0, none⟩ = some (.slice Ao39 t232.length co39) := (blk_cell BK243.out 0).trans rfl; have hcz44_1 : w43.cell? ⟨gb243, 1, none⟩ = some (.slice Ao41 t235.length co41) := (blk_cell BK243.out 1).trans rfl; have hcz44_2 : w43.cell? ⟨gb243, 2, none⟩ = some (.slice Ao42 t238.length co42) := (blk_cell BK243.out 2).trans rfl; have hfz44_0 := blk_frozen BK243.out 0; have hfz44_1 := blk_frozen BK243.out 1; have hfz44_2 := blk_frozen BK243.out 2; have p244 : 0 ≤ (0 : Int) := (by omega); have q244 : 0 < (t232.length : Int) := of_decide_eq_true (by first | (with_reducible assumption) | assumption); obtain ⟨ad244, A244_0, c244_0, e244, hx244_0, hl244_0, hi244_0⟩ := at_L3 (Kd.N_reads' HO234.out).2.2 0 p244 q244; cases e244; obtain ⟨ce244, hce244, hMe244, hcc244⟩ := Kd.N_get HO234.out [] 0 p244 (by first | exact q244 | exact of_decide_eq_true (by first | (with_reducible assumption) | assumption) | (have e_ := (Kd.N_reads' HO234.out).1; omega)); obtain ⟨ua244_0, uc244_0, rfl, ul244_0, ge244_0⟩ := Kd.FK_slice_open hMe244; have hv244_0 := hcc244 0 _ rfl; rw [Nat.add_zero, show ((Kd.slice 46 k46)).sz = 1 from rfl, Nat.mul_one] at hv244_0; replace hv244_0 := Option.some.inj (hv244_0.symm.trans hx244_0); injection hv244_0 with hva_ hvn_ hvc_; rw [hva_] at ge244_0; rw [hvc_] at ul244_0; have HL244_0 := Aside0.mk (show Kd.V k46 46 _ w.heap.size _ _ (rd_L3 t232 0) from Kd.V_mk ul244_0 ge244_0); clear hva_ hvn_ hvc_ ge244_0 ul244_0; clear hcc244 hce244; have qi244 : (0 < t232.length) = True := eq_true (by omega); (try rw [show ((0 : Int)).toNat = 0 from rfl] at hx244_0); (try rw [Addr.add_zero'] at hx244_0); have HR244_0 := Aside0.mk hi244_0; have HC244_0 := Aside0.mk hl244_0; clear hi244_0 hl244_0; replace p244 := eq_true p244; replace q244 := eq_true q244; have p245 : 0 ≤ (0 : Int) := (by omega); have q245 : 0 < (t232.length : Int) := of_decide_eq_true (by first | (with_reducible assumption) | assumption); obtain ⟨ad245, A245_0, c245_0, e245, hx245_0, hl245_0, hi245_0⟩ := at_L3 (Kd.N_reads' HO234.out).2.2 0 p245 q245; obtain rfl : ad244 = ad245 := (by injection e245); obtain ⟨ce245, hce245, hMe245, hcc245⟩ := Kd.N_get HO234.out [] 0 p245 (by first | exact q245 | exact of_decide_eq_true (by first | (with_reducible assumption) | assumption) | (have e_ := (Kd.N_reads' HO234.out).1; omega)); obtain ⟨ua245_0, uc245_0, rfl, ul245_0, ge245_0⟩ := Kd.FK_slice_open hMe245; have hv245_0 := hcc245 0 _ rfl; rw [Nat.add_zero, show ((Kd.slice 46 k46)).sz = 1 from rfl, Nat.mul_one] at hv245_0; replace hv245_0 := Option.some.inj (hv245_0.symm.trans hx245_0); injection hv245_0 with hva_ hvn_ hvc_; rw [hva_] at ge245_0; rw [hvc_] at ul245_0; have HL245_0 := Aside0.mk (show Kd.V k46 46 _ w.heap.size _ _ (rd_L3 t232 0) from Kd.V_mk ul245_0 ge245_0); clear hva_ hvn_ hvc_ ge245_0 ul245_0; clear hcc245 hce245; have qi245 : (0 < t232.length) = True := eq_true (by omega); (try rw [show ((0 : Int)).toNat = 0 from rfl] at hx245_0); (try rw [Addr.add_zero'] at hx245_0); have HR245_0 := Aside0.mk hi245_0; have HC245_0 := Aside0.mk hl245_0; clear hi245_0 hl245_0; replace p245 := eq_true p245; replace q245 := eq_true q245; have ea_ := Option.some.inj (hx244_0.symm.trans hx245_0); injection ea_ with ea_ en_ ec_; subst ea_; subst ec_; clear en_; have p246 : 0 ≤ (1 : Int) := (by omega); have q246 : 1 < ((rd_L3 t232 0).length : Int) := of_decide_eq_true (by first | (with_reducible assumption) | assumption); obtain ⟨ad246, e246, hx246_0, hx246_1, hx246_2⟩ := at_T46 (by repeat (first | (with_reducible exact HR245_0.out) | (with_reducible refine Kd.C_alloc ?_ _) | (with_reducible refine Kd.C_drewN ?_ _) | (with_reducible refine Kd.C_drew ?_) | exact HR245_0.out)) 1 p246 q246; cases e246; (try simp only [show (1 : Int).toNat = 1 from rfl, Nat.reduceMul, Nat.reduceEqDiff, Go.Addr.add, ↓reduceIte] at hx246_0); (try simp only [show (1 : Int).toNat = 1 from rfl, Nat.reduceMul, Nat.reduceEqDiff, Go.Addr.add, ↓reduceIte] at hx246_1); (try simp only [show (1 : Int).toNat = 1 from rfl, Nat.reduceMul, Nat.reduceEqDiff, Go.Addr.add, ↓reduceIte] at hx246_2); have qi246 : (1 < (rd_L3 t232 0).length) = True := eq_true (by omega); (try rw [show ((1 : Int)).toNat = 1 from rfl] at hx246_0); (try rw [show 1 * 3 = 3 from rfl] at hx246_0); (try rw [show ((1 : Int)).toNat = 1 from rfl] at hx246_1); (try rw [show 1 * 3 = 3 from rfl] at hx246_1); (try rw [show ((1 : Int)).toNat = 1 from rfl] at hx246_2); (try rw [show 1 * 3 = 3 from rfl] at hx246_2); replace p246 := eq_true p246; replace q246 := eq_true q246))
        go_ret
        exact ⟨by first | rfl | (simp [errW_none, errW_some] <;> rfl) | (simp [*, errW_none, errW_some] <;> rfl) | (simp [errW_none, errW_some, Go.Proofs.YtmocooihkobdjaaDoor.listNe]; done), by repeat (first | (with_reducible first | exact HB.out | apply below_alloc | apply pw_below_drewN | apply below_drew1 | refine below_set ?_ GE243.out) | exact HB.out)⟩
      ·rw [if_neg c7] at H
       exact absurd H (by simp)
     ·rw [if_neg c6] at H
      have c6b0 : (((rd_L3 t232 0).length : Int) == 2) = false := beq_eq_false_iff_ne.mpr c6
      have c6b1 : (((rd_L3 t232 0).length : Int) != 2) = true := bne_iff_ne.mpr c6
      obtain rfl := Option.some.inj H
      go_enter Tryd.func21, Tryd.ntmps21
      go_wp2_with (first | ((with_reducible refine gate_callee (f := 19) rfl ?_); refine goesL_ (some 5) rfl rfl Tryd.func19 (by kernel_rfl) rfl #[.string (⟨#[105, 110, 115, 116, 97, 108, 108, 32, 97, 97, 32, 124, 32, 98, 98, 10, 35, 32, 120, 10, 97, 118, 111, 105, 100, 32, 99, 99, 10]⟩ : ByteArray)] rfl (by (try simp only [List.map_toArray, List.map_cons, List.map_nil]); first | done | rfl | (simp only [List.length_drop, List.length_take]; rfl) | (simp; done)) ?_; (with_reducible refine (request_Read.calls k (⟨#[105, 110, 115, 116, 97, 108, 108, 32, 97, 97, 32, 124, 32, 98, 98, 10, 35, 32, 120, 10, 97, 118, 111, 105, 100, 32, 99, 99, 10]⟩ : ByteArray) t232 t235 t238 t241 t242 _ ?side1 A1.out).mono ?_); (case side1 => exact GG.below HG.out (W0 HB.out)); rintro e w45 ⟨v233, v236, v239, rfl, ho0, ho1, ho2, hb⟩; refine ⟨_, rfl, ?_⟩; have n0_ := Aside0.mk (Kd.N_lower (Kd.N_mono (ok' := fun k_ => some k_ ≠ (v236 : Value).ownBlock ∧ some k_ ≠ (v239 : Value).ownBlock) ho0 (fun k_ hk_ => ⟨hk_.2.1, hk_.2.2⟩)) (below_size (W0 HB.out))); have n1_ := Aside0.mk (Kd.R_lower (Kd.R_mono (ok' := fun k_ => True) ho1 (fun _ hk_ => trivial)) (below_size (W0 HB.out))); have n2_ := Aside0.mk (Kd.R_lower (Kd.R_mono (ok' := fun k_ => True) ho2 (fun _ hk_ => trivial)) (below_size (W0 HB.out))); have n3_ := Aside0.mk (below_step (W0 HB.out) hb); clear HB; have HO234 := n0_; have HO237 := n1_; have HO240 := n2_; have HB := n3_; clear n0_ n1_ n2_ n3_; (try clear hb); (try clear hb2); (try clear hk); (try clear hi); (try clear ho0); (try clear ho1); (try clear ho2)) | ((with_reducible refine gate_dst (N := 1) rfl ?_); (try (refine gate_guard (by rfl) ?_; dsimp only)); refine box_event ?hg (N := 1) ?hd (cs := #[.slice none 0 0, .slice none 0 0, .slice none 0 0]) (t := 26) ?hr ?_; (case hd => rfl); (case hg => rfl); (case hr => first | (go_simp; done) | (go_simp; rfl)); intro gb243 hg w46 hbox hb; have n0_ := Aside0.mk (Kd.N_below (Kd.N_elderB (Nq HO234.out) gb243 (Nat.le_of_eq hg.symm)) hb); have n1_ := Aside0.mk (Kd.R_below (Rq HO237.out) hb); have n2_ := Aside0.mk (Kd.R_below (Rq HO240.out) hb); have n3_ := Aside0.mk (below_step (W0 HB.out) hb); have n4_ := Aside0.mk (hbox); have n5_ := Aside0.mk ((by rw [hg]; exact (below_size (W0 HB.out)) : w.heap.size ≤ gb243)); have n6_ := Aside0.mk ((by rw [hg]; exact (below_size (W0 HB.out)) : w.heap.size ≤ gb243)); clear HO234; clear HO237; clear HO240; clear HB; have HO234 := n0_; have HO237 := n1_; have HO240 := n2_; have HB := n3_; have BK243 := n4_; have GW243 := n5_; have GE243 := n6_; clear n0_ n1_ n2_ n3_ n4_ n5_ n6_; clear hb hbox hg; obtain ⟨Ao47, co47, eo47⟩ := Kd.N_slice HO234.out; subst eo47; have hcz48_0 : w46.cell? ⟨gb243, 0, none⟩ = some (.slice none 0 0) := (blk_cell BK243.out 0).trans rfl; have hcz48_1 : w46.cell? ⟨gb243, 1, none⟩ = some (.slice none 0 0) := (blk_cell BK243.out 1).trans rfl; have hcz48_2 : w46.cell? ⟨gb243, 2, none⟩ = some (.slice none 0 0) := (blk_cell BK243.out 2).trans rfl; have hfz48_0 := blk_frozen BK243.out 0; have hfz48_1 := blk_frozen BK243.out 1; have hfz48_2 := blk_frozen BK243.out 2; obtain ⟨Ao49, co49, eo49⟩ := Kd.R_slice HO237.out; subst eo49; obtain ⟨Ao50, co50, eo50⟩ := Kd.R_slice HO240.out; subst eo50) | ((with_reducible refine gate_store (t := 26) (p := 1) rfl ?_); refine store_event (t := 26) (p := 1) (v := ?vo_w51) (w1 := (((w46.setCell ⟨gb243, 0, none⟩ (.slice Ao47 t232.length co47)).setCell ⟨gb243, 1, none⟩ (.slice Ao49 t235.length co49)).setCell ⟨gb243, 2, none⟩ (.slice Ao50 t238.length co50))) ?hg ?ho ?hn ?hr ?_; (case ho => rfl); (case hg => rfl); (case hn => rfl); (case hr => first | (go_simp; done) | (go_simp; rfl)); intro w51 hw; have n0_ : Aside0 (Kd.N (Kd.slice 46 k46) 23 w51 w.heap.size (fun k_ => some k_ ≠ (.slice Ao49 t235.length co49 : Value).ownBlock ∧ some k_ ≠ (.slice Ao50 t238.length co50 : Value).ownBlock ∧ k_ ≠ gb243) (.slice Ao47 t232.length co47) t232) := ⟨(by rw [hw]; exact (by (with_reducible repeat (first | apply Kd.N_alloc | apply Kd.N_drewN | apply Kd.N_drew)); exact Kd.N_mono (Kd.N_far (p := ⟨gb243, 2, none⟩) (Kd.N_far (p := ⟨gb243, 1, none⟩) (Kd.N_far (p := ⟨gb243, 0, none⟩) (Kd.N_mono HO234.out (fun k_ hk => (⟨hk, hk.2⟩ : _ ∧ k_ ≠ gb243))) (fun _ hk => hk.2) (.slice Ao47 t232.length co47)) (fun _ hk => hk.2) (.slice Ao49 t235.length co49)) (fun _ hk => hk.2) (.slice Ao50 t238.length co50)) (fun _ hk => ⟨hk.1.1.1, ⟨hk.1.1.2, hk.1.2⟩⟩)))⟩; have n1_ : Aside0 (Kd.R k46 46 w51 w.heap.size (fun _ => True) (.slice Ao49 t235.length co49) t235) := ⟨(by rw [hw]; exact (by (with_reducible repeat (first | apply Kd.R_alloc | apply Kd.R_drewN | apply Kd.R_drew)); exact Kd.R_mono (Kd.R_far (p := ⟨gb243, 2, none⟩) (Kd.R_far (p := ⟨gb243, 1, none⟩) (Kd.R_far (p := ⟨gb243, 0, none⟩) (Rt HO237.out BK243.out) (fun _ hk => hk.2) (.slice Ao47 t232.length co47)) (fun _ hk => hk.2) (.slice Ao49 t235.length co49)) (fun _ hk => hk.2) (.slice Ao50 t238.length co50)) (fun _ hk => trivial)))⟩; have n2_ : Aside0 (Kd.R k48 48 w51 w.heap.size (fun _ => True) (.slice Ao50 t238.length co50) t238) := ⟨(by rw [hw]; exact (by (with_reducible repeat (first | apply Kd.R_alloc | apply Kd.R_drewN | apply Kd.R_drew)); exact Kd.R_mono (Kd.R_far (p := ⟨gb243, 2, none⟩) (Kd.R_far (p := ⟨gb243, 1, none⟩) (Kd.R_far (p := ⟨gb243, 0, none⟩) (Rt HO240.out BK243.out) (fun _ hk => hk.2) (.slice Ao47 t232.length co47)) (fun _ hk => hk.2) (.slice Ao49 t235.length co49)) (fun _ hk => hk.2) (.slice Ao50 t238.length co50)) (fun _ hk => trivial)))⟩; have n3_ : Aside0 (w51.heap[gb243]? = some (.cells #[.slice Ao47 t232.length co47, .slice Ao49 t235.length co49, .slice Ao50 t238.length co50] 26 (0, 0))) := ⟨(by rw [hw]; exact (by (with_reducible repeat (first | refine blk_drewN ?_ _ | refine blk_drew ?_ | refine blk_alloc ?_ _)); refine blk_put (cs := #[.slice Ao47 t232.length co47, .slice Ao49 t235.length co49, .slice none 0 0]) ?_ 2 _ rfl; (with_reducible repeat (first | refine blk_drewN ?_ _ | refine blk_drew ?_ | refine blk_alloc ?_ _)); refine blk_put (cs := #[.slice Ao47 t232.length co47, .slice none 0 0, .slice none 0 0]) ?_ 1 _ rfl; (with_reducible repeat (first | refine blk_drewN ?_ _ | refine blk_drew ?_ | refine blk_alloc ?_ _)); refine blk_put (cs := #[.slice none 0 0, .slice none 0 0, .slice none 0 0]) ?_ 0 _ rfl; (with_reducible repeat (first | refine blk_drewN ?_ _ | refine blk_drew ?_ | refine blk_alloc ?_ _)); exact BK243.out))⟩; have n4_ : Aside0 (Below w.heap.size w w51) := ⟨(by rw [hw]; exact (W1 HB.out GE243.out))⟩; clear hw; clear HO234; clear HO237; clear HO240; clear BK243; clear HB; have HO234 := n0_; have HO237 := n1_; have HO240 := n2_; have BK243 := n3_; have HB := n4_; clear n0_ n1_ n2_ n3_ n4_; have hcz52_0 : w51.cell? ⟨gb243, 0, none⟩ = some (.slice Ao47 t232.length co47) := (blk_cell BK243.out 0).trans rfl; have hcz52_1 : w51.cell? ⟨gb243, 1, none⟩ = some (.slice Ao49 t235.length co49) := (blk_cell BK243.out 1).trans rfl; have hcz52_2 : w51.cell? ⟨gb243, 2, none⟩ = some (.slice Ao50 t238.length co50) := (blk_cell BK243.out 2).trans rfl; have hfz52_0 := blk_frozen BK243.out 0; have hfz52_1 := blk_frozen BK243.out 1; have hfz52_2 := blk_frozen BK243.out 2; have p244 : 0 ≤ (0 : Int) := (by omega); have q244 : 0 < (t232.length : Int) := of_decide_eq_true (by first | (with_reducible assumption) | assumption); obtain ⟨ad244, A244_0, c244_0, e244, hx244_0, hl244_0, hi244_0⟩ := at_L3 (Kd.N_reads' HO234.out).2.2 0 p244 q244; cases e244; obtain ⟨ce244, hce244, hMe244, hcc244⟩ := Kd.N_get HO234.out [] 0 p244 (by first | exact q244 | exact of_decide_eq_true (by first | (with_reducible assumption) | assumption) | (have e_ := (Kd.N_reads' HO234.out).1; omega)); obtain ⟨ua244_0, uc244_0, rfl, ul244_0, ge244_0⟩ := Kd.FK_slice_open hMe244; have hv244_0 := hcc244 0 _ rfl; rw [Nat.add_zero, show ((Kd.slice 46 k46)).sz = 1 from rfl, Nat.mul_one] at hv244_0; replace hv244_0 := Option.some.inj (hv244_0.symm.trans hx244_0); injection hv244_0 with hva_ hvn_ hvc_; rw [hva_] at ge244_0; rw [hvc_] at ul244_0; have HL244_0 := Aside0.mk (show Kd.V k46 46 _ w.heap.size _ _ (rd_L3 t232 0) from Kd.V_mk ul244_0 ge244_0); clear hva_ hvn_ hvc_ ge244_0 ul244_0; clear hcc244 hce244; have qi244 : (0 < t232.length) = True := eq_true (by omega); (try rw [show ((0 : Int)).toNat = 0 from rfl] at hx244_0); (try rw [Addr.add_zero'] at hx244_0); have HR244_0 := Aside0.mk hi244_0; have HC244_0 := Aside0.mk hl244_0; clear hi244_0 hl244_0; replace p244 := eq_true p244; replace q244 := eq_true q244))
      go_ret
      exact ⟨by first | rfl | (simp [errW_none, errW_some] <;> rfl) | (simp [*, errW_none, errW_some] <;> rfl) | (simp [errW_none, errW_some, Go.Proofs.YtmocooihkobdjaaDoor.listNe]; done), by repeat (first | (with_reducible first | exact HB.out | apply below_alloc | apply pw_below_drewN | apply below_drew1 | refine below_set ?_ GE243.out) | exact HB.out)⟩
    ·rw [if_neg c5] at H
     exact absurd H (by simp)
   ·rw [if_neg c4] at H
    have c4b0 : ((t232.length : Int) == 1) = false := beq_eq_false_iff_ne.mpr c4
    have c4b1 : ((t232.length : Int) != 1) = true := bne_iff_ne.mpr c4
    obtain rfl := Option.some.inj H
    go_enter Tryd.func21, Tryd.ntmps21
    go_wp2_with (first | ((with_reducible refine gate_callee (f := 19) rfl ?_); refine goesL_ (some 5) rfl rfl Tryd.func19 (by kernel_rfl) rfl #[.string (⟨#[105, 110, 115, 116, 97, 108, 108, 32, 97, 97, 32, 124, 32, 98, 98, 10, 35, 32, 120, 10, 97, 118, 111, 105, 100, 32, 99, 99, 10]⟩ : ByteArray)] rfl (by (try simp only [List.map_toArray, List.map_cons, List.map_nil]); first | done | rfl | (simp only [List.length_drop, List.length_take]; rfl) | (simp; done)) ?_; (with_reducible refine (request_Read.calls k (⟨#[105, 110, 115, 116, 97, 108, 108, 32, 97, 97, 32, 124, 32, 98, 98, 10, 35, 32, 120, 10, 97, 118, 111, 105, 100, 32, 99, 99, 10]⟩ : ByteArray) t232 t235 t238 t241 t242 _ ?side1 A1.out).mono ?_); (case side1 => exact GG.below HG.out (W0 HB.out)); rintro e w53 ⟨v233, v236, v239, rfl, ho0, ho1, ho2, hb⟩; refine ⟨_, rfl, ?_⟩; have n0_ := Aside0.mk (Kd.N_lower (Kd.N_mono (ok' := fun k_ => some k_ ≠ (v236 : Value).ownBlock ∧ some k_ ≠ (v239 : Value).ownBlock) ho0 (fun k_ hk_ => ⟨hk_.2.1, hk_.2.2⟩)) (below_size (W0 HB.out))); have n1_ := Aside0.mk (Kd.R_lower (Kd.R_mono (ok' := fun k_ => True) ho1 (fun _ hk_ => trivial)) (below_size (W0 HB.out))); have n2_ := Aside0.mk (Kd.R_lower (Kd.R_mono (ok' := fun k_ => True) ho2 (fun _ hk_ => trivial)) (below_size (W0 HB.out))); have n3_ := Aside0.mk (below_step (W0 HB.out) hb); clear HB; have HO234 := n0_; have HO237 := n1_; have HO240 := n2_; have HB := n3_; clear n0_ n1_ n2_ n3_; (try clear hb); (try clear hb2); (try clear hk); (try clear hi); (try clear ho0); (try clear ho1); (try clear ho2)) | ((with_reducible refine gate_dst (N := 1) rfl ?_); (try (refine gate_guard (by rfl) ?_; dsimp only)); refine box_event ?hg (N := 1) ?hd (cs := #[.slice none 0 0, .slice none 0 0, .slice none 0 0]) (t := 26) ?hr ?_; (case hd => rfl); (case hg => rfl); (case hr => first | (go_simp; done) | (go_simp; rfl)); intro gb243 hg w54 hbox hb; have n0_ := Aside0.mk (Kd.N_below (Kd.N_elderB (Nq HO234.out) gb243 (Nat.le_of_eq hg.symm)) hb); have n1_ := Aside0.mk (Kd.R_below (Rq HO237.out) hb); have n2_ := Aside0.mk (Kd.R_below (Rq HO240.out) hb); have n3_ := Aside0.mk (below_step (W0 HB.out) hb); have n4_ := Aside0.mk (hbox); have n5_ := Aside0.mk ((by rw [hg]; exact (below_size (W0 HB.out)) : w.heap.size ≤ gb243)); have n6_ := Aside0.mk ((by rw [hg]; exact (below_size (W0 HB.out)) : w.heap.size ≤ gb243)); clear HO234; clear HO237; clear HO240; clear HB; have HO234 := n0_; have HO237 := n1_; have HO240 := n2_; have HB := n3_; have BK243 := n4_; have GW243 := n5_; have GE243 := n6_; clear n0_ n1_ n2_ n3_ n4_ n5_ n6_; clear hb hbox hg; obtain ⟨Ao55, co55, eo55⟩ := Kd.N_slice HO234.out; subst eo55; have hcz56_0 : w54.cell? ⟨gb243, 0, none⟩ = some (.slice none 0 0) := (blk_cell BK243.out 0).trans rfl; have hcz56_1 : w54.cell? ⟨gb243, 1, none⟩ = some (.slice none 0 0) := (blk_cell BK243.out 1).trans rfl; have hcz56_2 : w54.cell? ⟨gb243, 2, none⟩ = some (.slice none 0 0) := (blk_cell BK243.out 2).trans rfl; have hfz56_0 := blk_frozen BK243.out 0; have hfz56_1 := blk_frozen BK243.out 1; have hfz56_2 := blk_frozen BK243.out 2; obtain ⟨Ao57, co57, eo57⟩ := Kd.R_slice HO237.out; subst eo57; obtain ⟨Ao58, co58, eo58⟩ := Kd.R_slice HO240.out; subst eo58))
    go_ret
    exact ⟨by first | rfl | (simp [errW_none, errW_some] <;> rfl) | (simp [*, errW_none, errW_some] <;> rfl) | (simp [errW_none, errW_some, Go.Proofs.YtmocooihkobdjaaDoor.listNe]; done), by repeat (first | (with_reducible first | exact HB.out | apply below_alloc | apply pw_below_drewN | apply below_drew1 | refine below_set ?_ GE243.out) | exact HB.out)⟩
  ·rw [if_neg c3] at H
   have c3b0 : (t242 == 0) = false := beq_eq_false_iff_ne.mpr c3
   have c3b1 : (t242 != 0) = true := bne_iff_ne.mpr c3
   obtain rfl := Option.some.inj H
   go_enter Tryd.func21, Tryd.ntmps21
   go_wp2_with (first | ((with_reducible refine gate_callee (f := 19) rfl ?_); refine goesL_ (some 5) rfl rfl Tryd.func19 (by kernel_rfl) rfl #[.string (⟨#[105, 110, 115, 116, 97, 108, 108, 32, 97, 97, 32, 124, 32, 98, 98, 10, 35, 32, 120, 10, 97, 118, 111, 105, 100, 32, 99, 99, 10]⟩ : ByteArray)] rfl (by (try simp only [List.map_toArray, List.map_cons, List.map_nil]); first | done | rfl | (simp only [List.length_drop, List.length_take]; rfl) | (simp; done)) ?_; (with_reducible refine (request_Read.calls k (⟨#[105, 110, 115, 116, 97, 108, 108, 32, 97, 97, 32, 124, 32, 98, 98, 10, 35, 32, 120, 10, 97, 118, 111, 105, 100, 32, 99, 99, 10]⟩ : ByteArray) t232 t235 t238 t241 t242 _ ?side1 A1.out).mono ?_); (case side1 => exact GG.below HG.out (W0 HB.out)); rintro e w59 ⟨v233, v236, v239, rfl, ho0, ho1, ho2, hb⟩; refine ⟨_, rfl, ?_⟩; have n0_ := Aside0.mk (Kd.N_lower (Kd.N_mono (ok' := fun k_ => some k_ ≠ (v236 : Value).ownBlock ∧ some k_ ≠ (v239 : Value).ownBlock) ho0 (fun k_ hk_ => ⟨hk_.2.1, hk_.2.2⟩)) (below_size (W0 HB.out))); have n1_ := Aside0.mk (Kd.R_lower (Kd.R_mono (ok' := fun k_ => True) ho1 (fun _ hk_ => trivial)) (below_size (W0 HB.out))); have n2_ := Aside0.mk (Kd.R_lower (Kd.R_mono (ok' := fun k_ => True) ho2 (fun _ hk_ => trivial)) (below_size (W0 HB.out))); have n3_ := Aside0.mk (below_step (W0 HB.out) hb); clear HB; have HO234 := n0_; have HO237 := n1_; have HO240 := n2_; have HB := n3_; clear n0_ n1_ n2_ n3_; (try clear hb); (try clear hb2); (try clear hk); (try clear hi); (try clear ho0); (try clear ho1); (try clear ho2)) | ((with_reducible refine gate_dst (N := 1) rfl ?_); (try (refine gate_guard (by rfl) ?_; dsimp only)); refine box_event ?hg (N := 1) ?hd (cs := #[.slice none 0 0, .slice none 0 0, .slice none 0 0]) (t := 26) ?hr ?_; (case hd => rfl); (case hg => rfl); (case hr => first | (go_simp; done) | (go_simp; rfl)); intro gb243 hg w60 hbox hb; have n0_ := Aside0.mk (Kd.N_below (Kd.N_elderB (Nq HO234.out) gb243 (Nat.le_of_eq hg.symm)) hb); have n1_ := Aside0.mk (Kd.R_below (Rq HO237.out) hb); have n2_ := Aside0.mk (Kd.R_below (Rq HO240.out) hb); have n3_ := Aside0.mk (below_step (W0 HB.out) hb); have n4_ := Aside0.mk (hbox); have n5_ := Aside0.mk ((by rw [hg]; exact (below_size (W0 HB.out)) : w.heap.size ≤ gb243)); have n6_ := Aside0.mk ((by rw [hg]; exact (below_size (W0 HB.out)) : w.heap.size ≤ gb243)); clear HO234; clear HO237; clear HO240; clear HB; have HO234 := n0_; have HO237 := n1_; have HO240 := n2_; have HB := n3_; have BK243 := n4_; have GW243 := n5_; have GE243 := n6_; clear n0_ n1_ n2_ n3_ n4_ n5_ n6_; clear hb hbox hg; obtain ⟨Ao61, co61, eo61⟩ := Kd.N_slice HO234.out; subst eo61; have hcz62_0 : w60.cell? ⟨gb243, 0, none⟩ = some (.slice none 0 0) := (blk_cell BK243.out 0).trans rfl; have hcz62_1 : w60.cell? ⟨gb243, 1, none⟩ = some (.slice none 0 0) := (blk_cell BK243.out 1).trans rfl; have hcz62_2 : w60.cell? ⟨gb243, 2, none⟩ = some (.slice none 0 0) := (blk_cell BK243.out 2).trans rfl; have hfz62_0 := blk_frozen BK243.out 0; have hfz62_1 := blk_frozen BK243.out 1; have hfz62_2 := blk_frozen BK243.out 2; obtain ⟨Ao63, co63, eo63⟩ := Kd.R_slice HO237.out; subst eo63; obtain ⟨Ao64, co64, eo64⟩ := Kd.R_slice HO240.out; subst eo64))
   go_ret
   exact ⟨by first | rfl | (simp [errW_none, errW_some] <;> rfl) | (simp [*, errW_none, errW_some] <;> rfl) | (simp [errW_none, errW_some, Go.Proofs.YtmocooihkobdjaaDoor.listNe]; done), by repeat (first | (with_reducible first | exact HB.out | apply below_alloc | apply pw_below_drewN | apply below_drew1 | refine below_set ?_ GE243.out) | exact HB.out)⟩
 ·rw [if_neg c2] at H
  have c2b0 : (t241 == 0) = false := beq_eq_false_iff_ne.mpr c2
  have c2b1 : (t241 != 0) = true := bne_iff_ne.mpr c2
  obtain rfl := Option.some.inj H
  go_enter Tryd.func21, Tryd.ntmps21
  go_wp2_with (first | ((with_reducible refine gate_callee (f := 19) rfl ?_); refine goesL_ (some 5) rfl rfl Tryd.func19 (by kernel_rfl) rfl #[.string (⟨#[105, 110, 115, 116, 97, 108, 108, 32, 97, 97, 32, 124, 32, 98, 98, 10, 35, 32, 120, 10, 97, 118, 111, 105, 100, 32, 99, 99, 10]⟩ : ByteArray)] rfl (by (try simp only [List.map_toArray, List.map_cons, List.map_nil]); first | done | rfl | (simp only [List.length_drop, List.length_take]; rfl) | (simp; done)) ?_; (with_reducible refine (request_Read.calls k (⟨#[105, 110, 115, 116, 97, 108, 108, 32, 97, 97, 32, 124, 32, 98, 98, 10, 35, 32, 120, 10, 97, 118, 111, 105, 100, 32, 99, 99, 10]⟩ : ByteArray) t232 t235 t238 t241 t242 _ ?side1 A1.out).mono ?_); (case side1 => exact GG.below HG.out (W0 HB.out)); rintro e w65 ⟨v233, v236, v239, rfl, ho0, ho1, ho2, hb⟩; refine ⟨_, rfl, ?_⟩; have n0_ := Aside0.mk (Kd.N_lower (Kd.N_mono (ok' := fun k_ => some k_ ≠ (v236 : Value).ownBlock ∧ some k_ ≠ (v239 : Value).ownBlock) ho0 (fun k_ hk_ => ⟨hk_.2.1, hk_.2.2⟩)) (below_size (W0 HB.out))); have n1_ := Aside0.mk (Kd.R_lower (Kd.R_mono (ok' := fun k_ => True) ho1 (fun _ hk_ => trivial)) (below_size (W0 HB.out))); have n2_ := Aside0.mk (Kd.R_lower (Kd.R_mono (ok' := fun k_ => True) ho2 (fun _ hk_ => trivial)) (below_size (W0 HB.out))); have n3_ := Aside0.mk (below_step (W0 HB.out) hb); clear HB; have HO234 := n0_; have HO237 := n1_; have HO240 := n2_; have HB := n3_; clear n0_ n1_ n2_ n3_; (try clear hb); (try clear hb2); (try clear hk); (try clear hi); (try clear ho0); (try clear ho1); (try clear ho2)) | ((with_reducible refine gate_dst (N := 1) rfl ?_); (try (refine gate_guard (by rfl) ?_; dsimp only)); refine box_event ?hg (N := 1) ?hd (cs := #[.slice none 0 0, .slice none 0 0, .slice none 0 0]) (t := 26) ?hr ?_; (case hd => rfl); (case hg => rfl); (case hr => first | (go_simp; done) | (go_simp; rfl)); intro gb243 hg w66 hbox hb; have n0_ := Aside0.mk (Kd.N_below (Kd.N_elderB (Nq HO234.out) gb243 (Nat.le_of_eq hg.symm)) hb); have n1_ := Aside0.mk (Kd.R_below (Rq HO237.out) hb); have n2_ := Aside0.mk (Kd.R_below (Rq HO240.out) hb); have n3_ := Aside0.mk (below_step (W0 HB.out) hb); have n4_ := Aside0.mk (hbox); have n5_ := Aside0.mk ((by rw [hg]; exact (below_size (W0 HB.out)) : w.heap.size ≤ gb243)); have n6_ := Aside0.mk ((by rw [hg]; exact (below_size (W0 HB.out)) : w.heap.size ≤ gb243)); clear HO234; clear HO237; clear HO240; clear HB; have HO234 := n0_; have HO237 := n1_; have HO240 := n2_; have HB := n3_; have BK243 := n4_; have GW243 := n5_; have GE243 := n6_; clear n0_ n1_ n2_ n3_ n4_ n5_ n6_; clear hb hbox hg; obtain ⟨Ao67, co67, eo67⟩ := Kd.N_slice HO234.out; subst eo67; have hcz68_0 : w66.cell? ⟨gb243, 0, none⟩ = some (.slice none 0 0) := (blk_cell BK243.out 0).trans rfl; have hcz68_1 : w66.cell? ⟨gb243, 1, none⟩ = some (.slice none 0 0) := (blk_cell BK243.out 1).trans rfl; have hcz68_2 : w66.cell? ⟨gb243, 2, none⟩ = some (.slice none 0 0) := (blk_cell BK243.out 2).trans rfl; have hfz68_0 := blk_frozen BK243.out 0; have hfz68_1 := blk_frozen BK243.out 1; have hfz68_2 := blk_frozen BK243.out 2; obtain ⟨Ao69, co69, eo69⟩ := Kd.R_slice HO237.out; subst eo69; obtain ⟨Ao70, co70, eo70⟩ := Kd.R_slice HO240.out; subst eo70))
  go_ret
  exact ⟨by first | rfl | (simp [errW_none, errW_some] <;> rfl) | (simp [*, errW_none, errW_some] <;> rfl) | (simp [errW_none, errW_some, Go.Proofs.YtmocooihkobdjaaDoor.listNe]; done), by repeat (first | (with_reducible first | exact HB.out | apply below_alloc | apply pw_below_drewN | apply below_drew1 | refine below_set ?_ GE243.out) | exact HB.out)⟩
end Go.Proofs.YtmocooihkobdjaaDoor.I
end
section
namespace Go.Proofs.YtmocooihkobdjaaDoor.I
open Go.RowKit Go.Proofs.YtmocooihkobdjaaDoorW.PrintWords Go.Proofs.YtmocooihkobdjaaDoorW.PrintLast Go.Proofs.YtmocooihkobdjaaDoorW.PrintMore
attribute [local go_sem] max2_int min2_int max_two min_two max_three min_three max_four min_four
set_option linter.unusedVariables false
set_option linter.unusedSimpArgs false
mutual
def depotlaw24_RequestIdle.l0 : Nat → List Int → ByteArray → List Int → Int → Int → List (List (S46)) → List (S46) → List (S48) → Option (Bool)
 | 0, _, _, _, _, _, _, _, _ => none
 | k + 1, x1, x5, x7, x8, x9, x250000, x250001, x250002 => if x9 < (x5.size : Int) then (if x9 = 0 then (depotlaw24_RequestIdle.j1 k x1 x5 x7 x8 x9 (decide (x8 < (x1.length : Int))) x250000 x250001 x250002) else (if 0 ≤ (wrap64 (x9 - 1)) then (if (wrap64 (x9 - 1)) < (x5.size : Int) then (if (bt x5 (wrap64 (x9 - 1))) = 10 then (depotlaw24_RequestIdle.j1 k x1 x5 x7 x8 x9 (decide (x8 < (x1.length : Int))) x250000 x250001 x250002) else (depotlaw24_RequestIdle.j1 k x1 x5 x7 x8 x9 false x250000 x250001 x250002)) else (none)) else (none))) else ((request_Read.f k (strOfNums x7)).bind fun bt262 => (if bt262.2.2.2.1 = 0 then (if bt262.2.2.2.2 = 0 then ((depotref00_SameRequest.f k bt262.1 bt262.2.1 bt262.2.2.1 x250000 x250001 x250002).bind fun t274 => (if t274 = true then ((depotlaw24_awake.f k).bind fun t275 => (some t275)) else (some false))) else (some false)) else (some false)))
def depotlaw24_RequestIdle.j1 : Nat → List Int → ByteArray → List Int → Int → Int → Bool → List (List (S46)) → List (S46) → List (S48) → Option (Bool)
 | 0, _, _, _, _, _, _, _, _, _ => none
 | k + 1, x1, x5, x7, x8, x9, x42, x250000, x250001, x250002 => if x42 = true then (if 0 ≤ x8 then (if x8 < (x1.length : Int) then (if (Int.tmod (wrap64 ((Int.tmod (rd x1 x8) 5) + 5)) 5) = 0 then (if x7.length + 13 < 140737488355328 then ((some (x7 ++ bytesOf (⟨#[35, 32, 105, 110, 115, 116, 97, 108, 108, 32, 97, 97, 10]⟩ : ByteArray) : List Int)).bind fun y277 => (if 0 ≤ x9 then (if x9 < (x5.size : Int) then (if (bt x5 x9) = 10 then (if (Int.tmod (wrap64 (x8 + 1)) 2) = 1 then (if y277.length + 3 < 140737488355328 then ((some (y277 ++ bytesOf (⟨#[32, 9, 32]⟩ : ByteArray) : List Int)).bind fun y280 => (if y280.length < 140737488355328 then (depotlaw24_RequestIdle.l0 k x1 x5 (y280 ++ [bt x5 x9]) (wrap64 (x8 + 1)) (wrap64 (x9 + 1)) x250000 x250001 x250002) else (none))) else (none)) else (if y277.length < 140737488355328 then (depotlaw24_RequestIdle.l0 k x1 x5 (y277 ++ [bt x5 x9]) (wrap64 (x8 + 1)) (wrap64 (x9 + 1)) x250000 x250001 x250002) else (none))) else (if y277.length < 140737488355328 then (depotlaw24_RequestIdle.l0 k x1 x5 (y277 ++ [bt x5 x9]) (wrap64 (x8 + 1)) (wrap64 (x9 + 1)) x250000 x250001 x250002) else (none))) else (none)) else (none))) else (none)) else (if (Int.tmod (wrap64 ((Int.tmod (rd x1 x8) 5) + 5)) 5) = 1 then (if x7.length + 2 < 140737488355328 then ((some (x7 ++ bytesOf (⟨#[32, 9]⟩ : ByteArray) : List Int)).bind fun y292 => (if 0 ≤ x9 then (if x9 < (x5.size : Int) then (if (bt x5 x9) = 10 then (if (Int.tmod (wrap64 (x8 + 1)) 2) = 1 then (if y292.length + 3 < 140737488355328 then ((some (y292 ++ bytesOf (⟨#[32, 9, 32]⟩ : ByteArray) : List Int)).bind fun y295 => (if y295.length < 140737488355328 then (depotlaw24_RequestIdle.l0 k x1 x5 (y295 ++ [bt x5 x9]) (wrap64 (x8 + 1)) (wrap64 (x9 + 1)) x250000 x250001 x250002) else (none))) else (none)) else (if y292.length < 140737488355328 then (depotlaw24_RequestIdle.l0 k x1 x5 (y292 ++ [bt x5 x9]) (wrap64 (x8 + 1)) (wrap64 (x9 + 1)) x250000 x250001 x250002) else (none))) else (if y292.length < 140737488355328 then (depotlaw24_RequestIdle.l0 k x1 x5 (y292 ++ [bt x5 x9]) (wrap64 (x8 + 1)) (wrap64 (x9 + 1)) x250000 x250001 x250002) else (none))) else (none)) else (none))) else (none)) else (if (Int.tmod (wrap64 ((Int.tmod (rd x1 x8) 5) + 5)) 5) = 2 then (if x7.length + 4 < 140737488355328 then ((some (x7 ++ bytesOf (⟨#[10, 32, 9, 10]⟩ : ByteArray) : List Int)).bind fun y307 => (if 0 ≤ x9 then (if x9 < (x5.size : Int) then (if (bt x5 x9) = 10 then (if (Int.tmod (wrap64 (x8 + 1)) 2) = 1 then (if y307.length + 3 < 140737488355328 then ((some (y307 ++ bytesOf (⟨#[32, 9, 32]⟩ : ByteArray) : List Int)).bind fun y310 => (if y310.length < 140737488355328 then (depotlaw24_RequestIdle.l0 k x1 x5 (y310 ++ [bt x5 x9]) (wrap64 (x8 + 1)) (wrap64 (x9 + 1)) x250000 x250001 x250002) else (none))) else (none)) else (if y307.length < 140737488355328 then (depotlaw24_RequestIdle.l0 k x1 x5 (y307 ++ [bt x5 x9]) (wrap64 (x8 + 1)) (wrap64 (x9 + 1)) x250000 x250001 x250002) else (none))) else (if y307.length < 140737488355328 then (depotlaw24_RequestIdle.l0 k x1 x5 (y307 ++ [bt x5 x9]) (wrap64 (x8 + 1)) (wrap64 (x9 + 1)) x250000 x250001 x250002) else (none))) else (none)) else (none))) else (none)) else (if (Int.tmod (wrap64 ((Int.tmod (rd x1 x8) 5) + 5)) 5) = 3 then (if x7.length + 3 < 140737488355328 then ((some (x7 ++ bytesOf (⟨#[9, 35, 10]⟩ : ByteArray) : List Int)).bind fun y322 => (if 0 ≤ x9 then (if x9 < (x5.size : Int) then (if (bt x5 x9) = 10 then (if (Int.tmod (wrap64 (x8 + 1)) 2) = 1 then (if y322.length + 3 < 140737488355328 then ((some (y322 ++ bytesOf (⟨#[32, 9, 32]⟩ : ByteArray) : List Int)).bind fun y325 => (if y325.length < 140737488355328 then (depotlaw24_RequestIdle.l0 k x1 x5 (y325 ++ [bt x5 x9]) (wrap64 (x8 + 1)) (wrap64 (x9 + 1)) x250000 x250001 x250002) else (none))) else (none)) else (if y322.length < 140737488355328 then (depotlaw24_RequestIdle.l0 k x1 x5 (y322 ++ [bt x5 x9]) (wrap64 (x8 + 1)) (wrap64 (x9 + 1)) x250000 x250001 x250002) else (none))) else (if y322.length < 140737488355328 then (depotlaw24_RequestIdle.l0 k x1 x5 (y322 ++ [bt x5 x9]) (wrap64 (x8 + 1)) (wrap64 (x9 + 1)) x250000 x250001 x250002) else (none))) else (none)) else (none))) else (none)) else (if 0 ≤ x9 then (if x9 < (x5.size : Int) then (if (bt x5 x9) = 10 then (if (Int.tmod (wrap64 (x8 + 1)) 2) = 1 then (if x7.length + 3 < 140737488355328 then ((some (x7 ++ bytesOf (⟨#[32, 9, 32]⟩ : ByteArray) : List Int)).bind fun y337 => (if y337.length < 140737488355328 then (depotlaw24_RequestIdle.l0 k x1 x5 (y337 ++ [bt x5 x9]) (wrap64 (x8 + 1)) (wrap64 (x9 + 1)) x250000 x250001 x250002) else (none))) else (none)) else (if x7.length < 140737488355328 then (depotlaw24_RequestIdle.l0 k x1 x5 (x7 ++ [bt x5 x9]) (wrap64 (x8 + 1)) (wrap64 (x9 + 1)) x250000 x250001 x250002) else (none))) else (if x7.length < 140737488355328 then (depotlaw24_RequestIdle.l0 k x1 x5 (x7 ++ [bt x5 x9]) (wrap64 (x8 + 1)) (wrap64 (x9 + 1)) x250000 x250001 x250002) else (none))) else (none)) else (none)))))) else (none)) else (none)) else (if 0 ≤ x9 then (if x9 < (x5.size : Int) then (if (bt x5 x9) = 10 then (if (Int.tmod x8 2) = 1 then (if x7.length + 3 < 140737488355328 then ((some (x7 ++ bytesOf (⟨#[32, 9, 32]⟩ : ByteArray) : List Int)).bind fun y349 => (if y349.length < 140737488355328 then (depotlaw24_RequestIdle.l0 k x1 x5 (y349 ++ [bt x5 x9]) x8 (wrap64 (x9 + 1)) x250000 x250001 x250002) else (none))) else (none)) else (if x7.length < 140737488355328 then (depotlaw24_RequestIdle.l0 k x1 x5 (x7 ++ [bt x5 x9]) x8 (wrap64 (x9 + 1)) x250000 x250001 x250002) else (none))) else (if x7.length < 140737488355328 then (depotlaw24_RequestIdle.l0 k x1 x5 (x7 ++ [bt x5 x9]) x8 (wrap64 (x9 + 1)) x250000 x250001 x250002) else (none))) else (none)) else (none))
end
def depotlaw24_RequestIdle.f (k : Nat) (l0_0 : List (List (S46))) (l0_1 : List (S46)) (l0_2 : List (S48)) (l1 : List Int) : Option (Bool) := (depotref00_CopyRequest.f k l0_0 l0_1 l0_2).bind fun bt250 => ((request_Write.f k bt250.1 bt250.2.1 bt250.2.2).bind fun bt259 => (if bt259.2 = 0 then (depotlaw24_RequestIdle.l0 k l1 bt259.1 ([] : List Int) 0 0 l0_0 l0_1 l0_2) else ((depotlaw24_awake.f k).bind fun t261 => (some t261))))
theorem depotlaw24_RequestIdle.mono_l : ∀ k, (∀ y0 y1 y2 y3 y4 y5 y6 y7, LeO (depotlaw24_RequestIdle.l0 k y0 y1 y2 y3 y4 y5 y6 y7) (depotlaw24_RequestIdle.l0 (k + 1) y0 y1 y2 y3 y4 y5 y6 y7)) ∧ (∀ y0 y1 y2 y3 y4 y5 y6 y7 y8, LeO (depotlaw24_RequestIdle.j1 k y0 y1 y2 y3 y4 y5 y6 y7 y8) (depotlaw24_RequestIdle.j1 (k + 1) y0 y1 y2 y3 y4 y5 y6 y7 y8))
 | 0 => ⟨fun _ _ _ _ _ _ _ _ r h => by simp [depotlaw24_RequestIdle.l0] at h, fun _ _ _ _ _ _ _ _ _ r h => by simp [depotlaw24_RequestIdle.j1] at h⟩
 | k + 1 => by
  obtain ⟨ih0, ih1⟩ := depotlaw24_RequestIdle.mono_l k
  refine ⟨?_, ?_⟩
  ·intro y0 y1 y2 y3 y4 y5 y6 y7
   unfold depotlaw24_RequestIdle.l0
   repeat' first
   | (with_reducible exact ih0 _ _ _ _ _ _ _ _)
   | (with_reducible exact ih1 _ _ _ _ _ _ _ _ _)
   | (with_reducible exact depotlaw24_awake.mono _)
   | (with_reducible exact depotref00_CopyRequest.mono _ _ _ _)
   | (with_reducible exact depotref00_SameRequest.mono _ _ _ _ _ _ _)
   | (with_reducible exact request_Read.mono _ _)
   | (with_reducible exact request_Write.mono _ _ _ _)
   | (with_reducible exact LeO.refl _)
   | (with_reducible exact LeO.none _)
   | (with_reducible refine LeO.ite ?_ ?_)
   | (with_reducible refine LeO.bind ?_ (fun _ => ?_))
   | exact ih0 _ _ _ _ _ _ _ _
   | exact ih1 _ _ _ _ _ _ _ _ _
   | exact depotlaw24_awake.mono _
   | exact depotref00_CopyRequest.mono _ _ _ _
   | exact depotref00_SameRequest.mono _ _ _ _ _ _ _
   | exact request_Read.mono _ _
   | exact request_Write.mono _ _ _ _
   | exact LeO.none _
   | refine LeO.ite ?_ ?_
   | refine LeO.bind ?_ (fun _ => ?_)
  ·intro y0 y1 y2 y3 y4 y5 y6 y7 y8
   unfold depotlaw24_RequestIdle.j1
   repeat' first
   | (with_reducible exact ih0 _ _ _ _ _ _ _ _)
   | (with_reducible exact ih1 _ _ _ _ _ _ _ _ _)
   | (with_reducible exact depotlaw24_awake.mono _)
   | (with_reducible exact depotref00_CopyRequest.mono _ _ _ _)
   | (with_reducible exact depotref00_SameRequest.mono _ _ _ _ _ _ _)
   | (with_reducible exact request_Read.mono _ _)
   | (with_reducible exact request_Write.mono _ _ _ _)
   | (with_reducible exact LeO.refl _)
   | (with_reducible exact LeO.none _)
   | (with_reducible refine LeO.ite ?_ ?_)
   | (with_reducible refine LeO.bind ?_ (fun _ => ?_))
   | exact ih0 _ _ _ _ _ _ _ _
   | exact ih1 _ _ _ _ _ _ _ _ _
   | exact depotlaw24_awake.mono _
   | exact depotref00_CopyRequest.mono _ _ _ _
   | exact depotref00_SameRequest.mono _ _ _ _ _ _ _
   | exact request_Read.mono _ _
   | exact request_Write.mono _ _ _ _
   | exact LeO.none _
   | refine LeO.ite ?_ ?_
   | refine LeO.bind ?_ (fun _ => ?_)
theorem depotlaw24_RequestIdle.mono : ∀ a0 a1 a2 a3 k, LeO (depotlaw24_RequestIdle.f k a0 a1 a2 a3) (depotlaw24_RequestIdle.f (k + 1) a0 a1 a2 a3) := by
 intro a0 a1 a2 a3 k
 obtain ⟨ih0, ih1⟩ := depotlaw24_RequestIdle.mono_l k
 unfold depotlaw24_RequestIdle.f
 repeat' first
   | (with_reducible exact ih0 _ _ _ _ _ _ _ _)
   | (with_reducible exact ih1 _ _ _ _ _ _ _ _ _)
   | (with_reducible exact depotlaw24_awake.mono _)
   | (with_reducible exact depotref00_CopyRequest.mono _ _ _ _)
   | (with_reducible exact depotref00_SameRequest.mono _ _ _ _ _ _ _)
   | (with_reducible exact request_Read.mono _ _)
   | (with_reducible exact request_Write.mono _ _ _ _)
   | (with_reducible exact LeO.refl _)
   | (with_reducible exact LeO.none _)
   | (with_reducible refine LeO.ite ?_ ?_)
   | (with_reducible refine LeO.bind ?_ (fun _ => ?_))
   | exact ih0 _ _ _ _ _ _ _ _
   | exact ih1 _ _ _ _ _ _ _ _ _
   | exact depotlaw24_awake.mono _
   | exact depotref00_CopyRequest.mono _ _ _ _
   | exact depotref00_SameRequest.mono _ _ _ _ _ _ _
   | exact request_Read.mono _ _
   | exact request_Write.mono _ _ _ _
   | exact LeO.none _
   | refine LeO.ite ?_ ?_
   | refine LeO.bind ?_ (fun _ => ?_)
set_option maxHeartbeats 8000000 in
set_option maxRecDepth 100000 in
theorem depotlaw24_RequestIdle.calls (k : Nat) (A0_0 : Option Addr) (c0_0 : Nat) (l0_0 : List (List (S46))) (A0_1 : Option Addr) (c0_1 : Nat) (l0_1 : List (S46)) (A0_2 : Option Addr) (c0_2 : Nat) (l0_2 : List (S48)) (A1 : Option Addr) (c1 : Nat) (l1 : List Int) (r : Bool) (w : World) (hr0_0 : Kd.C (Kd.slice 46 k46) w A0_0 l0_0.length l0_0) (hc0_0 : l0_0.length ≤ c0_0) (hr0_1 : Kd.C k46 w A0_1 l0_1.length l0_1) (hc0_1 : l0_1.length ≤ c0_1) (hr0_2 : Kd.C k48 w A0_2 l0_2.length l0_2) (hc0_2 : l0_2.length ≤ c0_2) (hr1 : Kd.C (Kd.int .i64) w A1 l1.length l1) (hc1 : l1.length ≤ c1) (hG : GG w) (h : depotlaw24_RequestIdle.f k l0_0 l0_1 l0_2 l1 = some r) (hr : r = true) :
  Calls Tryd.prog 10 #[.agg #[.slice A0_0 l0_0.length c0_0, .slice A0_1 l0_1.length c0_1, .slice A0_2 l0_2.length c0_2], .slice A1 l1.length c1] w fun e w' => e = .returned (.bool r) ∧ Below w.heap.size w w' := by
 have hu26 := Tryd.underlying26
 have HR0_0 := Aside0.mk hr0_0
 have HC0_0 := Aside0.mk hc0_0
 clear hr0_0 hc0_0
 have HR0_1 := Aside0.mk hr0_1
 have HC0_1 := Aside0.mk hc0_1
 clear hr0_1 hc0_1
 have HR0_2 := Aside0.mk hr0_2
 have HC0_2 := Aside0.mk hc0_2
 clear hr0_2 hc0_2
 have HR1 := Aside0.mk hr1
 have HC1 := Aside0.mk hc1
 clear hr1 hc1
 have HB := Aside0.mk (Below.refl w.heap.size w)
 have HG := Aside0.mk hG
 clear hG
 have H : ((depotref00_CopyRequest.f k l0_0 l0_1 l0_2).bind fun bt250 => ((request_Write.f k bt250.1 bt250.2.1 bt250.2.2).bind fun bt259 => (if bt259.2 = 0 then (depotlaw24_RequestIdle.l0 k l1 bt259.1 ([] : List Int) 0 0 l0_0 l0_1 l0_2) else ((depotlaw24_awake.f k).bind fun t261 => (some t261))))) = some r := h
 clear h
 replace H := Option.bind_eq_some_iff.mp H
 obtain ⟨⟨t250, t253, t256⟩, A30, H⟩ := H
 replace H : ((request_Write.f k t250 t253 t256).bind fun bt259 => (if bt259.2 = 0 then (depotlaw24_RequestIdle.l0 k l1 bt259.1 ([] : List Int) 0 0 l0_0 l0_1 l0_2) else ((depotlaw24_awake.f k).bind fun t261 => (some t261)))) = some r := H
 have A3 := Aside0.mk A30
 clear A30
 replace H := Option.bind_eq_some_iff.mp H
 obtain ⟨⟨t259, t260⟩, A40, H⟩ := H
 replace H : (if t260 = 0 then (depotlaw24_RequestIdle.l0 k l1 t259 ([] : List Int) 0 0 l0_0 l0_1 l0_2) else ((depotlaw24_awake.f k).bind fun t261 => (some t261))) = some r := H
 have A4 := Aside0.mk A40
 clear A40
 by_cases c5 : t260 = 0
 ·rw [if_pos c5] at H
  have c5b0 : (t260 == 0) = true := beq_iff_eq.mpr c5
  have c5b1 : (t260 != 0) = false := bne_eq_false_iff_eq.mpr c5
  clear c5
  have H' := Aside0.mk H
  clear H
  go_enter Tryd.func10, Tryd.ntmps10
  go_wp2_with (first | ((with_reducible refine gate_dst (N := 2) rfl ?_); (try (refine gate_guard (by rfl) ?_; dsimp only)); refine box_event ?hg (N := 2) ?hd (cs := #[.slice A0_0 l0_0.length c0_0, .slice A0_1 l0_1.length c0_1, .slice A0_2 l0_2.length c0_2]) (t := 26) ?hr ?_; (case hd => rfl); (case hg => rfl); (case hr => first | (go_simp; done) | (go_simp; rfl)); intro gb249 hg w6 hbox hb; have n0_ := Aside0.mk (below_step (W0 HB.out) hb); have n1_ := Aside0.mk (hbox); have n2_ := Aside0.mk ((by rw [hg]; exact (below_size (W0 HB.out)) : w.heap.size ≤ gb249)); have n3_ := Aside0.mk ((by rw [hg]; exact (below_size (W0 HB.out)) : w.heap.size ≤ gb249)); clear HB; have HB := n0_; have BK249 := n1_; have GW249 := n2_; have GE249 := n3_; clear n0_ n1_ n2_ n3_; clear hb hbox hg; have hcz7_0 : w6.cell? ⟨gb249, 0, none⟩ = some (.slice A0_0 l0_0.length c0_0) := (blk_cell BK249.out 0).trans rfl; have hcz7_1 : w6.cell? ⟨gb249, 1, none⟩ = some (.slice A0_1 l0_1.length c0_1) := (blk_cell BK249.out 1).trans rfl; have hcz7_2 : w6.cell? ⟨gb249, 2, none⟩ = some (.slice A0_2 l0_2.length c0_2) := (blk_cell BK249.out 2).trans rfl; have hfz7_0 := blk_frozen BK249.out 0; have hfz7_1 := blk_frozen BK249.out 1; have hfz7_2 := blk_frozen BK249.out 2) | ((with_reducible refine gate_callee (f := 12) rfl ?_); refine goesL_ (some 15) rfl rfl Tryd.func12 (by kernel_rfl) rfl #[.agg #[.slice A0_0 l0_0.length c0_0, .slice A0_1 l0_1.length c0_1, .slice A0_2 l0_2.length c0_2]] rfl (by (try simp only [List.map_toArray, List.map_cons, List.map_nil]); first | done | rfl | (simp only [List.length_drop, List.length_take]; rfl) | (simp; done)) ?_; (with_reducible refine (depotref00_CopyRequest.calls k _ _ l0_0 _ _ l0_1 _ _ l0_2 t250 t253 t256 _ ?side1 ?side2 ?side3 ?side4 ?side5 ?side6 A3.out).mono ?_); (case side1 => exact Cq HR0_0.out HB.out); (case side2 => exact HC0_0.out); (case side3 => exact Cq HR0_1.out HB.out); (case side4 => exact HC0_1.out); (case side5 => exact Cq HR0_2.out HB.out); (case side6 => exact HC0_2.out); rintro e w8 ⟨v251, v254, v257, rfl, ho0, ho1, ho2, hb⟩; refine ⟨_, rfl, ?_⟩; have n0_ := Aside0.mk (Kd.N_lower (Kd.N_mono (ok' := fun k_ => some k_ ≠ (v254 : Value).ownBlock ∧ some k_ ≠ (v257 : Value).ownBlock ∧ k_ ≠ gb249) (Kd.S_N (Kd.S_bound (Kd.S_apart' ho0 (Kd.R_typed ho2) (by decide)))) (fun k_ hk_ => ⟨hk_.1.1, hk_.1.2, (Kd.freshB (g := gb249) (Bq BK249.out) k_ hk_.2.1)⟩)) (below_size (W1 HB.out GE249.out))); have n1_ := Aside0.mk (Kd.R_lower ho1 (below_size (W1 HB.out GE249.out))); have n2_ := Aside0.mk (Kd.R_lower ho2 (below_size (W1 HB.out GE249.out))); have n3_ := Aside0.mk (blk_below (g := gb249) (Bq BK249.out) hb); have n4_ := Aside0.mk (below_step (W1 HB.out GE249.out) hb); clear BK249; clear HB; have HO252 := n0_; have HO255 := n1_; have HO258 := n2_; have BK249 := n3_; have HB := n4_; clear n0_ n1_ n2_ n3_ n4_; (try clear hb); (try clear hb2); (try clear hk); (try clear hi); (try clear ho0); (try clear ho1); (try clear ho2); obtain ⟨Ao9, co9, eo9⟩ := Kd.N_slice HO252.out; subst eo9; obtain ⟨Ao10, co10, eo10⟩ := Kd.R_slice HO255.out; subst eo10; obtain ⟨Ao11, co11, eo11⟩ := Kd.R_slice HO258.out; subst eo11) | ((with_reducible refine gate_callee (f := 17) rfl ?_); refine goesL_ (some 16) rfl rfl Tryd.func17 (by kernel_rfl) rfl #[.agg #[.slice Ao9 t250.length co9, .slice Ao10 t253.length co10, .slice Ao11 t256.length co11]] rfl (by (try simp only [List.map_toArray, List.map_cons, List.map_nil]); first | done | rfl | (simp only [List.length_drop, List.length_take]; rfl) | (simp; done)) ?_; (with_reducible refine (request_Write.calls k _ _ t250 _ _ t253 _ _ t256 t259 t260 _ ?side1 ?side2 ?side3 ?side4 ?side5 ?side6 ?side7 A4.out).mono ?_); (case side1 => repeat (first | exact (Kd.N_reads' HO252.out).2.2 | (with_reducible refine Kd.C_alloc ?_ _) | (with_reducible refine Kd.C_drewN ?_ _) | (with_reducible refine Kd.C_drew ?_))); (case side2 => exact (Kd.N_reads' HO252.out).2.1); (case side3 => repeat (first | exact (Kd.R_reads' HO255.out).2.2 | (with_reducible refine Kd.C_alloc ?_ _) | (with_reducible refine Kd.C_drewN ?_ _) | (with_reducible refine Kd.C_drew ?_))); (case side4 => exact (Kd.R_reads' HO255.out).2.1); (case side5 => repeat (first | exact (Kd.R_reads' HO258.out).2.2 | (with_reducible refine Kd.C_alloc ?_ _) | (with_reducible refine Kd.C_drewN ?_ _) | (with_reducible refine Kd.C_drew ?_))); (case side6 => exact (Kd.R_reads' HO258.out).2.1); (case side7 => exact GG.below HG.out (W1 HB.out GE249.out)); rintro e w12 ⟨rfl, hb⟩; refine ⟨_, rfl, ?_⟩; have n0_ := Aside0.mk (Kd.N_below (Nq HO252.out) hb); have n1_ := Aside0.mk (Kd.R_below (Rq HO255.out) hb); have n2_ := Aside0.mk (Kd.R_below (Rq HO258.out) hb); have n3_ := Aside0.mk (blk_below (g := gb249) (Bq BK249.out) hb); have n4_ := Aside0.mk (below_step (W1 HB.out GE249.out) hb); clear HO252; clear HO255; clear HO258; clear BK249; clear HB; have HO252 := n0_; have HO255 := n1_; have HO258 := n2_; have BK249 := n3_; have HB := n4_; clear n0_ n1_ n2_ n3_ n4_; (try clear hb); (try clear hb2); (try clear hk); (try clear hi)))
  go_loopg [7, 8, 9] k (fun kq v7 v8 v9 w' => ∃ (x7_1 : List Int) (x8_1 : Int) (x9_1 : Int), v8 = .int .i64 x8_1 ∧ v9 = .int .i64 x9_1 ∧ Aside0 (depotlaw24_RequestIdle.l0 kq l1 t259 x7_1 x8_1 x9_1 l0_0 l0_1 l0_2 = some r) ∧ Aside0 (kq ≤ k) ∧ Aside0 (Kd.R (Kd.int .u8) 5 w' w.heap.size (fun _ => True) v7 x7_1) ∧ Aside0 (w'.heap[gb249]? = some (.cells #[(.slice A0_0 l0_0.length c0_0), (.slice A0_1 l0_1.length c0_1), (.slice A0_2 l0_2.length c0_2)] 26 (0, 0))) ∧ Aside0 (Below w.heap.size w w'))
  case atStart => exact ⟨(([] : List Int)), (0), (0), (by first | rfl | (simp; done) | (simp [*]; done)), (by first | rfl | (simp; done) | (simp [*]; done)), H', ⟨Nat.le_refl _⟩, ⟨by first | exact Kd.R_nil _ _ _ _ _ | exact Kd.N_nil _ _ _ _ _ | exact Kd.V_nil _ _ _ _ _ | exact Kd.Q_nil _ _ _ _ _ | exact Kd.S_nil _ _ _ _ _⟩, ⟨by (with_reducible repeat (first | refine blk_drewN ?_ _ | refine blk_drew ?_ | refine blk_alloc ?_ _)); exact BK249.out⟩, ⟨by repeat (first | (with_reducible first | exact HB.out | apply below_alloc | apply pw_below_drewN | apply below_drew1 | refine below_set ?_ GE249.out) | exact HB.out)⟩⟩
  case round =>
   clear H'
   try clear c1
   try clear p2
   try clear c5
   try clear c5b0
   try clear c5b1
   try clear c10
   try clear c12
   try clear hcz7_0
   try clear hcz7_1
   try clear hcz7_2
   try clear hfz7_0
   try clear hfz7_1
   try clear hfz7_2
   obtain ⟨x7_1, x8_1, x9_1, rfl, rfl, HA, HK1, HO_7, BK249, HB⟩ := hrel
   cases gk with
   | zero => exact absurd HA.out (by simp [depotlaw24_RequestIdle.l0])
   | succ k1 =>
    have H := HA.out
    clear HA
    simp only [depotlaw24_RequestIdle.l0] at H
    by_cases c13 : x9_1 < (t259.size : Int)
    ·rw [if_pos c13] at H
     have c13b0 : decide (x9_1 < (t259.size : Int)) = true := decide_eq_true c13
     clear c13
     have HC14 := Aside0.mk H
     clear H
     go_upto_region 9 with (fail)
     go_cut [42] (fun v42 wc => ∃ (kq : Nat) (x42_13 : Bool), v42 = .bool x42_13 ∧ Aside0 (depotlaw24_RequestIdle.j1 kq l1 t259 x7_1 x8_1 x9_1 x42_13 l0_0 l0_1 l0_2 = some r) ∧ Aside0 (kq ≤ k1) ∧ Aside0 (Kd.R (Kd.int .u8) 5 wc w.heap.size (fun _ => True) u7 x7_1) ∧ Aside0 (wc.heap[gb249]? = some (.cells #[(.slice A0_0 l0_0.length c0_0), (.slice A0_1 l0_1.length c0_1), (.slice A0_2 l0_2.length c0_2)] 26 (0, 0))) ∧ Aside0 (Below w.heap.size w wc))
     case first =>
      have H := HC14.out
      clear HC14
      by_cases c15 : x9_1 = 0
      ·rw [if_pos c15] at H
       have c15b0 : (x9_1 == 0) = true := beq_iff_eq.mpr c15
       have c15b1 : (x9_1 != 0) = false := bne_eq_false_iff_eq.mpr c15
       clear c15
       (first | rw [c15b0] | (simp only [i64_w, i32_w]; rw [c15b0]) | skip)
       have H' := Aside0.mk H
       clear H
       go_wp2
       go_meet
       case rel => exact ⟨_, (decide (x8_1 < (l1.length : Int))), (by first | rfl | (simp; done) | (simp [*]; done)), H', ⟨by have := HK1.out; first | omega | exact Nat.le_refl _⟩, ⟨by (with_reducible repeat (first | apply Kd.R_alloc | apply Kd.R_drewN | apply Kd.R_drew)); exact HO_7.out⟩, ⟨by (with_reducible repeat (first | refine blk_drewN ?_ _ | refine blk_drew ?_ | refine blk_alloc ?_ _)); exact BK249.out⟩, ⟨by repeat (first | (with_reducible first | exact HB.out | apply below_alloc | apply pw_below_drewN | apply below_drew1 | refine below_set ?_ GE249.out) | exact HB.out)⟩⟩
      ·rw [if_neg c15] at H
       have c15b0 : (x9_1 == 0) = false := beq_eq_false_iff_ne.mpr c15
       have c15b1 : (x9_1 != 0) = true := bne_iff_ne.mpr c15
       (first | rw [c15b0] | (simp only [i64_w, i32_w]; rw [c15b0]) | skip)
       obtain ⟨ji16, hji16⟩ : ∃ j_ : Int, (wrap64 (x9_1 - 1)) = j_ := ⟨_, rfl⟩
       replace H : (if 0 ≤ (ji16) then (if (ji16) < (t259.size : Int) then (if (bt t259 (ji16)) = 10 then (depotlaw24_RequestIdle.j1 k1 l1 t259 x7_1 x8_1 x9_1 (decide (x8_1 < (l1.length : Int))) l0_0 l0_1 l0_2) else (depotlaw24_RequestIdle.j1 k1 l1 t259 x7_1 x8_1 x9_1 false l0_0 l0_1 l0_2)) else (none)) else (none)) = some r := by first | (rw [hji16] at H; exact H) | (simp only [hji16] at H ⊢; exact H)
       have hji16w : (IntKind.i64.wrap (x9_1 - 1)) = ji16 := (i64_w _).trans hji16
       by_cases c17 : 0 ≤ (ji16)
       ·rw [if_pos c17] at H
        have c17b0 : decide (0 ≤ (ji16)) = true := decide_eq_true c17
        clear c17
        by_cases c18 : (ji16) < (t259.size : Int)
        ·rw [if_pos c18] at H
         have c18b0 : decide ((ji16) < (t259.size : Int)) = true := decide_eq_true c18
         clear c18
         by_cases c20 : (bt t259 (ji16)) = 10
         ·rw [if_pos c20] at H
          have c20b0 : ((bt t259 (ji16)) == 10) = true := beq_iff_eq.mpr c20
          have c20b1 : ((bt t259 (ji16)) != 10) = false := bne_eq_false_iff_eq.mpr c20
          clear c20
          have H' := Aside0.mk H
          clear H
          have p19 : 0 ≤ ((ji16) : Int) := of_decide_eq_true (by first | (with_reducible assumption) | assumption)
          have q19 : (ji16) < (t259.size : Int) := of_decide_eq_true (by first | (with_reducible assumption) | assumption)
          have hx19 := bt_at t259 (ji16)
          replace p19 := eq_true p19
          replace q19 := eq_true q19
          go_wp2
          go_meet
          case rel => exact ⟨_, (decide (x8_1 < (l1.length : Int))), (by first | rfl | (simp; done) | (simp [*]; done)), H', ⟨by have := HK1.out; first | omega | exact Nat.le_refl _⟩, ⟨by (with_reducible repeat (first | apply Kd.R_alloc | apply Kd.R_drewN | apply Kd.R_drew)); exact HO_7.out⟩, ⟨by (with_reducible repeat (first | refine blk_drewN ?_ _ | refine blk_drew ?_ | refine blk_alloc ?_ _)); exact BK249.out⟩, ⟨by repeat (first | (with_reducible first | exact HB.out | apply below_alloc | apply pw_below_drewN | apply below_drew1 | refine below_set ?_ GE249.out) | exact HB.out)⟩⟩
         ·rw [if_neg c20] at H
          have c20b0 : ((bt t259 (ji16)) == 10) = false := beq_eq_false_iff_ne.mpr c20
          have c20b1 : ((bt t259 (ji16)) != 10) = true := bne_iff_ne.mpr c20
          have H' := Aside0.mk H
          clear H
          have p19 : 0 ≤ ((ji16) : Int) := of_decide_eq_true (by first | (with_reducible assumption) | assumption)
          have q19 : (ji16) < (t259.size : Int) := of_decide_eq_true (by first | (with_reducible assumption) | assumption)
          have hx19 := bt_at t259 (ji16)
          replace p19 := eq_true p19
          replace q19 := eq_true q19
          go_wp2
          go_meet
          case rel => exact ⟨_, (false), (by first | rfl | (simp; done) | (simp [*]; done)), H', ⟨by have := HK1.out; first | omega | exact Nat.le_refl _⟩, ⟨by (with_reducible repeat (first | apply Kd.R_alloc | apply Kd.R_drewN | apply Kd.R_drew)); exact HO_7.out⟩, ⟨by (with_reducible repeat (first | refine blk_drewN ?_ _ | refine blk_drew ?_ | refine blk_alloc ?_ _)); exact BK249.out⟩, ⟨by repeat (first | (with_reducible first | exact HB.out | apply below_alloc | apply pw_below_drewN | apply below_drew1 | refine below_set ?_ GE249.out) | exact HB.out)⟩⟩
        ·rw [if_neg c18] at H
         exact absurd H (by simp)
       ·rw [if_neg c17] at H
        exact absurd H (by simp)
     case rest =>
      clear HC14
      try clear c1
      try clear p1
      try clear q1
      try clear hx1
      try clear c2
      try clear p2
      try clear c5
      try clear c5b0
      try clear c5b1
      try clear p6
      try clear c10
      try clear c12
      try clear c13
      try clear c13b0
      try clear c15
      try clear c15b0
      try clear c15b1
      try clear c17
      try clear c17b0
      try clear c18
      try clear c18b0
      try clear p19
      try clear q19
      try clear hx19
      try clear c20
      try clear c20b0
      try clear c20b1
      try clear hcz7_0
      try clear hcz7_1
      try clear hcz7_2
      try clear hfz7_0
      try clear hfz7_1
      try clear hfz7_2
      try clear p19
      try clear p2
      try clear q19
      obtain ⟨kq, x42_13, rfl, HA, HJ13, HO_7, BK249, HB⟩ := hcut
      cases kq with
      | zero => exact absurd HA.out (by simp [depotlaw24_RequestIdle.j1])
      | succ kj13 =>
       have H := HA.out
       clear HA
       simp only [depotlaw24_RequestIdle.j1] at H
       by_cases c21 : x42_13 = true
       ·subst c21
        have H1 : (if 0 ≤ x8_1 then (if x8_1 < (l1.length : Int) then (if (Int.tmod (wrap64 ((Int.tmod (rd l1 x8_1) 5) + 5)) 5) = 0 then (if x7_1.length + 13 < 140737488355328 then ((some (x7_1 ++ bytesOf (⟨#[35, 32, 105, 110, 115, 116, 97, 108, 108, 32, 97, 97, 10]⟩ : ByteArray) : List Int)).bind fun y277 => (if 0 ≤ x9_1 then (if x9_1 < (t259.size : Int) then (if (bt t259 x9_1) = 10 then (if (Int.tmod (wrap64 (x8_1 + 1)) 2) = 1 then (if y277.length + 3 < 140737488355328 then ((some (y277 ++ bytesOf (⟨#[32, 9, 32]⟩ : ByteArray) : List Int)).bind fun y280 => (if y280.length < 140737488355328 then (depotlaw24_RequestIdle.l0 kj13 l1 t259 (y280 ++ [bt t259 x9_1]) (wrap64 (x8_1 + 1)) (wrap64 (x9_1 + 1)) l0_0 l0_1 l0_2) else (none))) else (none)) else (if y277.length < 140737488355328 then (depotlaw24_RequestIdle.l0 kj13 l1 t259 (y277 ++ [bt t259 x9_1]) (wrap64 (x8_1 + 1)) (wrap64 (x9_1 + 1)) l0_0 l0_1 l0_2) else (none))) else (if y277.length < 140737488355328 then (depotlaw24_RequestIdle.l0 kj13 l1 t259 (y277 ++ [bt t259 x9_1]) (wrap64 (x8_1 + 1)) (wrap64 (x9_1 + 1)) l0_0 l0_1 l0_2) else (none))) else (none)) else (none))) else (none)) else (if (Int.tmod (wrap64 ((Int.tmod (rd l1 x8_1) 5) + 5)) 5) = 1 then (if x7_1.length + 2 < 140737488355328 then ((some (x7_1 ++ bytesOf (⟨#[32, 9]⟩ : ByteArray) : List Int)).bind fun y292 => (if 0 ≤ x9_1 then (if x9_1 < (t259.size : Int) then (if (bt t259 x9_1) = 10 then (if (Int.tmod (wrap64 (x8_1 + 1)) 2) = 1 then (if y292.length + 3 < 140737488355328 then ((some (y292 ++ bytesOf (⟨#[32, 9, 32]⟩ : ByteArray) : List Int)).bind fun y295 => (if y295.length < 140737488355328 then (depotlaw24_RequestIdle.l0 kj13 l1 t259 (y295 ++ [bt t259 x9_1]) (wrap64 (x8_1 + 1)) (wrap64 (x9_1 + 1)) l0_0 l0_1 l0_2) else (none))) else (none)) else (if y292.length < 140737488355328 then (depotlaw24_RequestIdle.l0 kj13 l1 t259 (y292 ++ [bt t259 x9_1]) (wrap64 (x8_1 + 1)) (wrap64 (x9_1 + 1)) l0_0 l0_1 l0_2) else (none))) else (if y292.length < 140737488355328 then (depotlaw24_RequestIdle.l0 kj13 l1 t259 (y292 ++ [bt t259 x9_1]) (wrap64 (x8_1 + 1)) (wrap64 (x9_1 + 1)) l0_0 l0_1 l0_2) else (none))) else (none)) else (none))) else (none)) else (if (Int.tmod (wrap64 ((Int.tmod (rd l1 x8_1) 5) + 5)) 5) = 2 then (if x7_1.length + 4 < 140737488355328 then ((some (x7_1 ++ bytesOf (⟨#[10, 32, 9, 10]⟩ : ByteArray) : List Int)).bind fun y307 => (if 0 ≤ x9_1 then (if x9_1 < (t259.size : Int) then (if (bt t259 x9_1) = 10 then (if (Int.tmod (wrap64 (x8_1 + 1)) 2) = 1 then (if y307.length + 3 < 140737488355328 then ((some (y307 ++ bytesOf (⟨#[32, 9, 32]⟩ : ByteArray) : List Int)).bind fun y310 => (if y310.length < 140737488355328 then (depotlaw24_RequestIdle.l0 kj13 l1 t259 (y310 ++ [bt t259 x9_1]) (wrap64 (x8_1 + 1)) (wrap64 (x9_1 + 1)) l0_0 l0_1 l0_2) else (none))) else (none)) else (if y307.length < 140737488355328 then (depotlaw24_RequestIdle.l0 kj13 l1 t259 (y307 ++ [bt t259 x9_1]) (wrap64 (x8_1 + 1)) (wrap64 (x9_1 + 1)) l0_0 l0_1 l0_2) else (none))) else (if y307.length < 140737488355328 then (depotlaw24_RequestIdle.l0 kj13 l1 t259 (y307 ++ [bt t259 x9_1]) (wrap64 (x8_1 + 1)) (wrap64 (x9_1 + 1)) l0_0 l0_1 l0_2) else (none))) else (none)) else (none))) else (none)) else (if (Int.tmod (wrap64 ((Int.tmod (rd l1 x8_1) 5) + 5)) 5) = 3 then (if x7_1.length + 3 < 140737488355328 then ((some (x7_1 ++ bytesOf (⟨#[9, 35, 10]⟩ : ByteArray) : List Int)).bind fun y322 => (if 0 ≤ x9_1 then (if x9_1 < (t259.size : Int) then (if (bt t259 x9_1) = 10 then (if (Int.tmod (wrap64 (x8_1 + 1)) 2) = 1 then (if y322.length + 3 < 140737488355328 then ((some (y322 ++ bytesOf (⟨#[32, 9, 32]⟩ : ByteArray) : List Int)).bind fun y325 => (if y325.length < 140737488355328 then (depotlaw24_RequestIdle.l0 kj13 l1 t259 (y325 ++ [bt t259 x9_1]) (wrap64 (x8_1 + 1)) (wrap64 (x9_1 + 1)) l0_0 l0_1 l0_2) else (none))) else (none)) else (if y322.length < 140737488355328 then (depotlaw24_RequestIdle.l0 kj13 l1 t259 (y322 ++ [bt t259 x9_1]) (wrap64 (x8_1 + 1)) (wrap64 (x9_1 + 1)) l0_0 l0_1 l0_2) else (none))) else (if y322.length < 140737488355328 then (depotlaw24_RequestIdle.l0 kj13 l1 t259 (y322 ++ [bt t259 x9_1]) (wrap64 (x8_1 + 1)) (wrap64 (x9_1 + 1)) l0_0 l0_1 l0_2) else (none))) else (none)) else (none))) else (none)) else (if 0 ≤ x9_1 then (if x9_1 < (t259.size : Int) then (if (bt t259 x9_1) = 10 then (if (Int.tmod (wrap64 (x8_1 + 1)) 2) = 1 then (if x7_1.length + 3 < 140737488355328 then ((some (x7_1 ++ bytesOf (⟨#[32, 9, 32]⟩ : ByteArray) : List Int)).bind fun y337 => (if y337.length < 140737488355328 then (depotlaw24_RequestIdle.l0 kj13 l1 t259 (y337 ++ [bt t259 x9_1]) (wrap64 (x8_1 + 1)) (wrap64 (x9_1 + 1)) l0_0 l0_1 l0_2) else (none))) else (none)) else (if x7_1.length < 140737488355328 then (depotlaw24_RequestIdle.l0 kj13 l1 t259 (x7_1 ++ [bt t259 x9_1]) (wrap64 (x8_1 + 1)) (wrap64 (x9_1 + 1)) l0_0 l0_1 l0_2) else (none))) else (if x7_1.length < 140737488355328 then (depotlaw24_RequestIdle.l0 kj13 l1 t259 (x7_1 ++ [bt t259 x9_1]) (wrap64 (x8_1 + 1)) (wrap64 (x9_1 + 1)) l0_0 l0_1 l0_2) else (none))) else (none)) else (none)))))) else (none)) else (none)) = some r := by rw [if_pos rfl] at H; exact H
        clear H
        have H := H1
        clear H1
        by_cases c22 : 0 ≤ x8_1
        ·rw [if_pos c22] at H
         have c22b0 : decide (0 ≤ x8_1) = true := decide_eq_true c22
         clear c22
         by_cases c23 : x8_1 < (l1.length : Int)
         ·rw [if_pos c23] at H
          have c23b0 : decide (x8_1 < (l1.length : Int)) = true := decide_eq_true c23
          clear c23
          by_cases c24 : (Int.tmod (wrap64 ((Int.tmod (rd l1 x8_1) 5) + 5)) 5) = 0
          ·rw [if_pos c24] at H
           have c24b0 : ((Int.tmod (wrap64 ((Int.tmod (rd l1 x8_1) 5) + 5)) 5) == 0) = true := beq_iff_eq.mpr c24
           have c24b1 : ((Int.tmod (wrap64 ((Int.tmod (rd l1 x8_1) 5) + 5)) 5) != 0) = false := bne_eq_false_iff_eq.mpr c24
           clear c24
           by_cases c25 : x7_1.length + 13 < 140737488355328
           ·rw [if_pos c25] at H
            have LMc25 := Aside0.mk c25
            clear c25
            obtain ⟨y277, hy277⟩ : ∃ y_ : List Int, y_ = (x7_1 ++ bytesOf (⟨#[35, 32, 105, 110, 115, 116, 97, 108, 108, 32, 97, 97, 10]⟩ : ByteArray)) := ⟨_, rfl⟩
            replace H : (if 0 ≤ x9_1 then (if x9_1 < (t259.size : Int) then (if (bt t259 x9_1) = 10 then (if (Int.tmod (wrap64 (x8_1 + 1)) 2) = 1 then (if y277.length + 3 < 140737488355328 then ((some (y277 ++ bytesOf (⟨#[32, 9, 32]⟩ : ByteArray) : List Int)).bind fun y280 => (if y280.length < 140737488355328 then (depotlaw24_RequestIdle.l0 kj13 l1 t259 (y280 ++ [bt t259 x9_1]) (wrap64 (x8_1 + 1)) (wrap64 (x9_1 + 1)) l0_0 l0_1 l0_2) else (none))) else (none)) else (if y277.length < 140737488355328 then (depotlaw24_RequestIdle.l0 kj13 l1 t259 (y277 ++ [bt t259 x9_1]) (wrap64 (x8_1 + 1)) (wrap64 (x9_1 + 1)) l0_0 l0_1 l0_2) else (none))) else (if y277.length < 140737488355328 then (depotlaw24_RequestIdle.l0 kj13 l1 t259 (y277 ++ [bt t259 x9_1]) (wrap64 (x8_1 + 1)) (wrap64 (x9_1 + 1)) l0_0 l0_1 l0_2) else (none))) else (none)) else (none)) = some r := by first | (rw [hy277]; with_reducible exact H) | (have H2_ := (Option.bind_some _ _).symm.trans H; rw [hy277]; with_reducible exact H2_) | (have H2_ := (Option.bind_some _ _).symm.trans H; with_reducible exact H2_) | with_reducible exact H | (rw [hy277]; exact H) | exact H
            have Ny277 := Aside0.mk hy277
            clear hy277
            by_cases c26 : 0 ≤ x9_1
            ·rw [if_pos c26] at H
             have c26b0 : decide (0 ≤ x9_1) = true := decide_eq_true c26
             clear c26
             by_cases c27 : x9_1 < (t259.size : Int)
             ·rw [if_pos c27] at H
              have c27b0 : decide (x9_1 < (t259.size : Int)) = true := decide_eq_true c27
              clear c27
              by_cases c29 : (bt t259 x9_1) = 10
              ·rw [if_pos c29] at H
               have c29b0 : ((bt t259 x9_1) == 10) = true := beq_iff_eq.mpr c29
               have c29b1 : ((bt t259 x9_1) != 10) = false := bne_eq_false_iff_eq.mpr c29
               clear c29
               by_cases c30 : (Int.tmod (wrap64 (x8_1 + 1)) 2) = 1
               ·rw [if_pos c30] at H
                have c30b0 : ((Int.tmod (wrap64 (x8_1 + 1)) 2) == 1) = true := beq_iff_eq.mpr c30
                have c30b1 : ((Int.tmod (wrap64 (x8_1 + 1)) 2) != 1) = false := bne_eq_false_iff_eq.mpr c30
                clear c30
                by_cases c31 : y277.length + 3 < 140737488355328
                ·rw [if_pos c31] at H
                 have LMc31 := Aside0.mk c31
                 clear c31
                 obtain ⟨y280, hy280⟩ : ∃ y_ : List Int, y_ = (y277 ++ bytesOf (⟨#[32, 9, 32]⟩ : ByteArray)) := ⟨_, rfl⟩
                 replace H : (if y280.length < 140737488355328 then (depotlaw24_RequestIdle.l0 kj13 l1 t259 (y280 ++ [bt t259 x9_1]) (wrap64 (x8_1 + 1)) (wrap64 (x9_1 + 1)) l0_0 l0_1 l0_2) else (none)) = some r := by first | (rw [hy280]; with_reducible exact H) | (have H2_ := (Option.bind_some _ _).symm.trans H; rw [hy280]; with_reducible exact H2_) | (have H2_ := (Option.bind_some _ _).symm.trans H; with_reducible exact H2_) | with_reducible exact H | (rw [hy280]; exact H) | exact H
                 have Ny280 := Aside0.mk hy280
                 clear hy280
                 by_cases c33 : y280.length < 140737488355328
                 ·rw [if_pos c33] at H
                  have LMc33 := Aside0.mk c33
                  clear c33
                  obtain ⟨y283, hy283⟩ : ∃ y_ : List Int, y_ = (y280 ++ [bt t259 x9_1]) := ⟨_, rfl⟩
                  replace H : (depotlaw24_RequestIdle.l0 kj13 l1 t259 y283 (wrap64 (x8_1 + 1)) (wrap64 (x9_1 + 1)) l0_0 l0_1 l0_2) = some r := by first | (rw [hy283]; with_reducible exact H) | (have H2_ := (Option.bind_some _ _).symm.trans H; rw [hy283]; with_reducible exact H2_) | (have H2_ := (Option.bind_some _ _).symm.trans H; with_reducible exact H2_) | with_reducible exact H | (rw [hy283]; exact H) | exact H
                  have Ny283 := Aside0.mk hy283
                  clear hy283
                  have H' := Aside0.mk H
                  clear H
                  have p276 : 0 ≤ (x8_1 : Int) := of_decide_eq_true (by first | (with_reducible assumption) | assumption)
                  have q276 : x8_1 < (l1.length : Int) := of_decide_eq_true (by first | (with_reducible assumption) | assumption)
                  obtain ⟨ad276, e276, hx276_0⟩ := Kd.at_int HR1.out x8_1 p276 q276
                  cases e276
                  replace hx276_0 := (HB.out.cell (World.block_lt_of_cell? w _ hx276_0)).trans hx276_0
                  replace p276 := eq_true p276
                  replace q276 := eq_true q276
                  go_wp2_with (first | (at_builtin; refine print_append_str (w0 := w) w.heap.size rfl (.tmp 52) _ 42 9 5 rfl Tryd.underlying42 Tryd.underlying9 info5 u7 x7_1 (⟨#[35, 32, 105, 110, 115, 116, 97, 108, 108, 32, 97, 97, 10]⟩ : ByteArray) rfl rfl ?aO ?aB ?aS ?aL ?_; (case aB => exact (W1 HB.out GE249.out)); (case aO => exact (Kd.own_of_R (Rq HO_7.out))); (case aS => exact (below_size (W1 HB.out GE249.out))); (case aL => have := LMc25.out; first | omega | (show _ + 13 ≤ _; omega)); intro v278 w34 ho0 hb hg; have ho := Kd.R_of_own (h1 := fun _ => rfl) (ok := fun _ => True) ho0 (fun _ _ => trivial); clear ho0; have hat := True.intro; rw [← Ny277.out] at ho; change Kd.R (Kd.int .u8) 5 w34 w.heap.size (fun _ => True) v278 y277 at ho; have n0_ := Aside0.mk (blk_grown (g := gb249) (Bq BK249.out) hg (Kd.R_ne HO_7.out BK249.out (by decide))); have n1_ := Aside0.mk (hb); have n2_ := Aside0.mk (ho); clear BK249; clear HB; clear HO_7; have BK249 := n0_; have HB := n1_; have HO279 := n2_; clear n0_ n1_ n2_; clear ho hb hg hat; have p28 : 0 ≤ (x9_1 : Int) := of_decide_eq_true (by first | (with_reducible assumption) | assumption); have q28 : x9_1 < (t259.size : Int) := of_decide_eq_true (by first | (with_reducible assumption) | assumption); have hx28 := bt_at t259 x9_1; replace p28 := eq_true p28; replace q28 := eq_true q28) | (at_builtin; refine print_append_str (w0 := w) w.heap.size rfl (.tmp 77) _ 42 9 5 rfl Tryd.underlying42 Tryd.underlying9 info5 v278 y277 (⟨#[32, 9, 32]⟩ : ByteArray) rfl rfl ?aO ?aB ?aS ?aL ?_; (case aB => exact (W1 HB.out GE249.out)); (case aO => exact (Kd.own_of_R (Rq HO279.out))); (case aS => exact (below_size (W1 HB.out GE249.out))); (case aL => have := LMc31.out; first | omega | (show _ + 3 ≤ _; omega)); intro v281 w35 ho0 hb hg; have ho := Kd.R_of_own (h1 := fun _ => rfl) (ok := fun _ => True) ho0 (fun _ _ => trivial); clear ho0; have hat := True.intro; rw [← Ny280.out] at ho; change Kd.R (Kd.int .u8) 5 w35 w.heap.size (fun _ => True) v281 y280 at ho; have n0_ := Aside0.mk (blk_grown (g := gb249) (Bq BK249.out) hg (Kd.R_ne HO279.out BK249.out (by decide))); have n1_ := Aside0.mk (hb); have n2_ := Aside0.mk (ho); clear BK249; clear HB; clear HO279; have BK249 := n0_; have HB := n1_; have HO282 := n2_; clear n0_ n1_ n2_; clear ho hb hg hat; have p32 : 0 ≤ (x9_1 : Int) := of_decide_eq_true (by first | (with_reducible assumption) | assumption); have q32 : x9_1 < (t259.size : Int) := of_decide_eq_true (by first | (with_reducible assumption) | assumption); have hx32 := bt_at t259 x9_1; replace p32 := eq_true p32; replace q32 := eq_true q32) | ((with_reducible refine gate_builtin (b := .append) (xs := #[.tmp 79, .tmp 83]) rfl ?_); (try (refine gate_guard (by rfl) ?_; dsimp only)); at_builtin; refine Kd.R_append (Kd.int .u8) (w0 := w) w.heap.size rfl (.tmp 79) (.tmp 83) 42 5 (.int .u8 0) 1 rfl Tryd.underlying42 info5 rfl (by decide) (by omega) v281 y280 (bt t259 x9_1) [.int .u8 (bt t259 x9_1)] (fun _ => True) (fun _ => False) rfl rfl ?aP (fun _ hk => hk.elim) ?aF ?aO ?aB ?aS ?aL ?_; (case aP => exact rfl); (case aB => exact (W1 HB.out GE249.out)); (case aF => exact (fun _ _ => trivial)); (case aO => exact (Rq HO282.out)); (case aS => exact (below_size (W1 HB.out GE249.out))); (case aL => have := LMc33.out; omega); intro v284 w36 ho hb hg hat; rw [← Ny283.out] at ho; have n0_ := Aside0.mk (blk_grown (g := gb249) (Bq BK249.out) hg (Kd.R_ne HO282.out BK249.out (by decide))); have n1_ := Aside0.mk (hb); have n2_ := Aside0.mk (ho); clear BK249; clear HB; clear HO282; have BK249 := n0_; have HB := n1_; have HO285 := n2_; clear n0_ n1_ n2_; clear ho hb hg hat))
                  go_roundg kj13
                  case measure => have := HK1.out; have := HJ13.out; omega
                  case rel => exact ⟨(y283), (wrap64 (x8_1 + 1)), (wrap64 (x9_1 + 1)), (by first | rfl | (simp; done) | (simp [*]; done)), (by first | rfl | (simp; done) | (simp [*]; done)), H', ⟨by have := HK1.out; have := HJ13.out; omega⟩, ⟨by (with_reducible repeat (first | apply Kd.R_alloc | apply Kd.R_drewN | apply Kd.R_drew)); exact HO285.out⟩, ⟨by (with_reducible repeat (first | refine blk_drewN ?_ _ | refine blk_drew ?_ | refine blk_alloc ?_ _)); exact BK249.out⟩, ⟨by repeat (first | (with_reducible first | exact HB.out | apply below_alloc | apply pw_below_drewN | apply below_drew1 | refine below_set ?_ GE249.out) | exact HB.out)⟩⟩
                 ·rw [if_neg c33] at H
                  exact absurd H (by simp)
                ·rw [if_neg c31] at H
                 exact absurd H (by simp)
               ·rw [if_neg c30] at H
                have c30b0 : ((Int.tmod (wrap64 (x8_1 + 1)) 2) == 1) = false := beq_eq_false_iff_ne.mpr c30
                have c30b1 : ((Int.tmod (wrap64 (x8_1 + 1)) 2) != 1) = true := bne_iff_ne.mpr c30
                by_cases c38 : y277.length < 140737488355328
                ·rw [if_pos c38] at H
                 have LMc38 := Aside0.mk c38
                 clear c38
                 obtain ⟨y286, hy286⟩ : ∃ y_ : List Int, y_ = (y277 ++ [bt t259 x9_1]) := ⟨_, rfl⟩
                 replace H : (depotlaw24_RequestIdle.l0 kj13 l1 t259 y286 (wrap64 (x8_1 + 1)) (wrap64 (x9_1 + 1)) l0_0 l0_1 l0_2) = some r := by first | (rw [hy286]; with_reducible exact H) | (have H2_ := (Option.bind_some _ _).symm.trans H; rw [hy286]; with_reducible exact H2_) | (have H2_ := (Option.bind_some _ _).symm.trans H; with_reducible exact H2_) | with_reducible exact H | (rw [hy286]; exact H) | exact H
                 have Ny286 := Aside0.mk hy286
                 clear hy286
                 have H' := Aside0.mk H
                 clear H
                 have p276 : 0 ≤ (x8_1 : Int) := of_decide_eq_true (by first | (with_reducible assumption) | assumption)
                 have q276 : x8_1 < (l1.length : Int) := of_decide_eq_true (by first | (with_reducible assumption) | assumption)
                 obtain ⟨ad276, e276, hx276_0⟩ := Kd.at_int HR1.out x8_1 p276 q276
                 cases e276
                 replace hx276_0 := (HB.out.cell (World.block_lt_of_cell? w _ hx276_0)).trans hx276_0
                 replace p276 := eq_true p276
                 replace q276 := eq_true q276
                 go_wp2_with (first | (at_builtin; refine print_append_str (w0 := w) w.heap.size rfl (.tmp 52) _ 42 9 5 rfl Tryd.underlying42 Tryd.underlying9 info5 u7 x7_1 (⟨#[35, 32, 105, 110, 115, 116, 97, 108, 108, 32, 97, 97, 10]⟩ : ByteArray) rfl rfl ?aO ?aB ?aS ?aL ?_; (case aB => exact (W1 HB.out GE249.out)); (case aO => exact (Kd.own_of_R (Rq HO_7.out))); (case aS => exact (below_size (W1 HB.out GE249.out))); (case aL => have := LMc25.out; first | omega | (show _ + 13 ≤ _; omega)); intro v278 w39 ho0 hb hg; have ho := Kd.R_of_own (h1 := fun _ => rfl) (ok := fun _ => True) ho0 (fun _ _ => trivial); clear ho0; have hat := True.intro; rw [← Ny277.out] at ho; change Kd.R (Kd.int .u8) 5 w39 w.heap.size (fun _ => True) v278 y277 at ho; have n0_ := Aside0.mk (blk_grown (g := gb249) (Bq BK249.out) hg (Kd.R_ne HO_7.out BK249.out (by decide))); have n1_ := Aside0.mk (hb); have n2_ := Aside0.mk (ho); clear BK249; clear HB; clear HO_7; have BK249 := n0_; have HB := n1_; have HO279 := n2_; clear n0_ n1_ n2_; clear ho hb hg hat; have p28 : 0 ≤ (x9_1 : Int) := of_decide_eq_true (by first | (with_reducible assumption) | assumption); have q28 : x9_1 < (t259.size : Int) := of_decide_eq_true (by first | (with_reducible assumption) | assumption); have hx28 := bt_at t259 x9_1; replace p28 := eq_true p28; replace q28 := eq_true q28; have p37 : 0 ≤ (x9_1 : Int) := of_decide_eq_true (by first | (with_reducible assumption) | assumption); have q37 : x9_1 < (t259.size : Int) := of_decide_eq_true (by first | (with_reducible assumption) | assumption); have hx37 := bt_at t259 x9_1; replace p37 := eq_true p37; replace q37 := eq_true q37) | ((with_reducible refine gate_builtin (b := .append) (xs := #[.tmp 79, .tmp 83]) rfl ?_); (try (refine gate_guard (by rfl) ?_; dsimp only)); at_builtin; refine Kd.R_append (Kd.int .u8) (w0 := w) w.heap.size rfl (.tmp 79) (.tmp 83) 42 5 (.int .u8 0) 1 rfl Tryd.underlying42 info5 rfl (by decide) (by omega) v278 y277 (bt t259 x9_1) [.int .u8 (bt t259 x9_1)] (fun _ => True) (fun _ => False) rfl rfl ?aP (fun _ hk => hk.elim) ?aF ?aO ?aB ?aS ?aL ?_; (case aP => exact rfl); (case aB => exact (W1 HB.out GE249.out)); (case aF => exact (fun _ _ => trivial)); (case aO => exact (Rq HO279.out)); (case aS => exact (below_size (W1 HB.out GE249.out))); (case aL => have := LMc38.out; omega); intro v287 w40 ho hb hg hat; rw [← Ny286.out] at ho; have n0_ := Aside0.mk (blk_grown (g := gb249) (Bq BK249.out) hg (Kd.R_ne HO279.out BK249.out (by decide))); have n1_ := Aside0.mk (hb); have n2_ := Aside0.mk (ho); clear BK249; clear HB; clear HO279; have BK249 := n0_; have HB := n1_; have HO288 := n2_; clear n0_ n1_ n2_; clear ho hb hg hat))
                 go_roundg kj13
                 case measure => have := HK1.out; have := HJ13.out; omega
                 case rel => exact ⟨(y286), (wrap64 (x8_1 + 1)), (wrap64 (x9_1 + 1)), (by first | rfl | (simp; done) | (simp [*]; done)), (by first | rfl | (simp; done) | (simp [*]; done)), H', ⟨by have := HK1.out; have := HJ13.out; omega⟩, ⟨by (with_reducible repeat (first | apply Kd.R_alloc | apply Kd.R_drewN | apply Kd.R_drew)); exact HO288.out⟩, ⟨by (with_reducible repeat (first | refine blk_drewN ?_ _ | refine blk_drew ?_ | refine blk_alloc ?_ _)); exact BK249.out⟩, ⟨by repeat (first | (with_reducible first | exact HB.out | apply below_alloc | apply pw_below_drewN | apply below_drew1 | refine below_set ?_ GE249.out) | exact HB.out)⟩⟩
                ·rw [if_neg c38] at H
                 exact absurd H (by simp)
              ·rw [if_neg c29] at H
               have c29b0 : ((bt t259 x9_1) == 10) = false := beq_eq_false_iff_ne.mpr c29
               have c29b1 : ((bt t259 x9_1) != 10) = true := bne_iff_ne.mpr c29
               by_cases c42 : y277.length < 140737488355328
               ·rw [if_pos c42] at H
                have LMc42 := Aside0.mk c42
                clear c42
                obtain ⟨y289, hy289⟩ : ∃ y_ : List Int, y_ = (y277 ++ [bt t259 x9_1]) := ⟨_, rfl⟩
                replace H : (depotlaw24_RequestIdle.l0 kj13 l1 t259 y289 (wrap64 (x8_1 + 1)) (wrap64 (x9_1 + 1)) l0_0 l0_1 l0_2) = some r := by first | (rw [hy289]; with_reducible exact H) | (have H2_ := (Option.bind_some _ _).symm.trans H; rw [hy289]; with_reducible exact H2_) | (have H2_ := (Option.bind_some _ _).symm.trans H; with_reducible exact H2_) | with_reducible exact H | (rw [hy289]; exact H) | exact H
                have Ny289 := Aside0.mk hy289
                clear hy289
                have H' := Aside0.mk H
                clear H
                have p276 : 0 ≤ (x8_1 : Int) := of_decide_eq_true (by first | (with_reducible assumption) | assumption)
                have q276 : x8_1 < (l1.length : Int) := of_decide_eq_true (by first | (with_reducible assumption) | assumption)
                obtain ⟨ad276, e276, hx276_0⟩ := Kd.at_int HR1.out x8_1 p276 q276
                cases e276
                replace hx276_0 := (HB.out.cell (World.block_lt_of_cell? w _ hx276_0)).trans hx276_0
                replace p276 := eq_true p276
                replace q276 := eq_true q276
                go_wp2_with (first | (at_builtin; refine print_append_str (w0 := w) w.heap.size rfl (.tmp 52) _ 42 9 5 rfl Tryd.underlying42 Tryd.underlying9 info5 u7 x7_1 (⟨#[35, 32, 105, 110, 115, 116, 97, 108, 108, 32, 97, 97, 10]⟩ : ByteArray) rfl rfl ?aO ?aB ?aS ?aL ?_; (case aB => exact (W1 HB.out GE249.out)); (case aO => exact (Kd.own_of_R (Rq HO_7.out))); (case aS => exact (below_size (W1 HB.out GE249.out))); (case aL => have := LMc25.out; first | omega | (show _ + 13 ≤ _; omega)); intro v278 w43 ho0 hb hg; have ho := Kd.R_of_own (h1 := fun _ => rfl) (ok := fun _ => True) ho0 (fun _ _ => trivial); clear ho0; have hat := True.intro; rw [← Ny277.out] at ho; change Kd.R (Kd.int .u8) 5 w43 w.heap.size (fun _ => True) v278 y277 at ho; have n0_ := Aside0.mk (blk_grown (g := gb249) (Bq BK249.out) hg (Kd.R_ne HO_7.out BK249.out (by decide))); have n1_ := Aside0.mk (hb); have n2_ := Aside0.mk (ho); clear BK249; clear HB; clear HO_7; have BK249 := n0_; have HB := n1_; have HO279 := n2_; clear n0_ n1_ n2_; clear ho hb hg hat; have p28 : 0 ≤ (x9_1 : Int) := of_decide_eq_true (by first | (with_reducible assumption) | assumption); have q28 : x9_1 < (t259.size : Int) := of_decide_eq_true (by first | (with_reducible assumption) | assumption); have hx28 := bt_at t259 x9_1; replace p28 := eq_true p28; replace q28 := eq_true q28; have p41 : 0 ≤ (x9_1 : Int) := of_decide_eq_true (by first | (with_reducible assumption) | assumption); have q41 : x9_1 < (t259.size : Int) := of_decide_eq_true (by first | (with_reducible assumption) | assumption); have hx41 := bt_at t259 x9_1; replace p41 := eq_true p41; replace q41 := eq_true q41) | ((with_reducible refine gate_builtin (b := .append) (xs := #[.tmp 79, .tmp 83]) rfl ?_); (try (refine gate_guard (by rfl) ?_; dsimp only)); at_builtin; refine Kd.R_append (Kd.int .u8) (w0 := w) w.heap.size rfl (.tmp 79) (.tmp 83) 42 5 (.int .u8 0) 1 rfl Tryd.underlying42 info5 rfl (by decide) (by omega) v278 y277 (bt t259 x9_1) [.int .u8 (bt t259 x9_1)] (fun _ => True) (fun _ => False) rfl rfl ?aP (fun _ hk => hk.elim) ?aF ?aO ?aB ?aS ?aL ?_; (case aP => exact rfl); (case aB => exact (W1 HB.out GE249.out)); (case aF => exact (fun _ _ => trivial)); (case aO => exact (Rq HO279.out)); (case aS => exact (below_size (W1 HB.out GE249.out))); (case aL => have := LMc42.out; omega); intro v290 w44 ho hb hg hat; rw [← Ny289.out] at ho; have n0_ := Aside0.mk (blk_grown (g := gb249) (Bq BK249.out) hg (Kd.R_ne HO279.out BK249.out (by decide))); have n1_ := Aside0.mk (hb); have n2_ := Aside0.mk (ho); clear BK249; clear HB; clear HO279; have BK249 := n0_; have HB := n1_; have HO291 := n2_; clear n0_ n1_ n2_; clear ho hb hg hat))
                go_roundg kj13
                case measure => have := HK1.out; have := HJ13.out; omega
                case rel => exact ⟨(y289), (wrap64 (x8_1 + 1)), (wrap64 (x9_1 + 1)), (by first | rfl | (simp; done) | (simp [*]; done)), (by first | rfl | (simp; done) | (simp [*]; done)), H', ⟨by have := HK1.out; have := HJ13.out; omega⟩, ⟨by (with_reducible repeat (first | apply Kd.R_alloc | apply Kd.R_drewN | apply Kd.R_drew)); exact HO291.out⟩, ⟨by (with_reducible repeat (first | refine blk_drewN ?_ _ | refine blk_drew ?_ | refine blk_alloc ?_ _)); exact BK249.out⟩, ⟨by repeat (first | (with_reducible first | exact HB.out | apply below_alloc | apply pw_below_drewN | apply below_drew1 | refine below_set ?_ GE249.out) | exact HB.out)⟩⟩
               ·rw [if_neg c42] at H
                exact absurd H (by simp)
             ·rw [if_neg c27] at H
              exact absurd H (by simp)
            ·rw [if_neg c26] at H
             exact absurd H (by simp)
           ·rw [if_neg c25] at H
            exact absurd H (by simp)
          ·rw [if_neg c24] at H
           have c24b0 : ((Int.tmod (wrap64 ((Int.tmod (rd l1 x8_1) 5) + 5)) 5) == 0) = false := beq_eq_false_iff_ne.mpr c24
           have c24b1 : ((Int.tmod (wrap64 ((Int.tmod (rd l1 x8_1) 5) + 5)) 5) != 0) = true := bne_iff_ne.mpr c24
           by_cases c45 : (Int.tmod (wrap64 ((Int.tmod (rd l1 x8_1) 5) + 5)) 5) = 1
           ·rw [if_pos c45] at H
            have c45b0 : ((Int.tmod (wrap64 ((Int.tmod (rd l1 x8_1) 5) + 5)) 5) == 1) = true := beq_iff_eq.mpr c45
            have c45b1 : ((Int.tmod (wrap64 ((Int.tmod (rd l1 x8_1) 5) + 5)) 5) != 1) = false := bne_eq_false_iff_eq.mpr c45
            clear c45
            by_cases c46 : x7_1.length + 2 < 140737488355328
            ·rw [if_pos c46] at H
             have LMc46 := Aside0.mk c46
             clear c46
             obtain ⟨y292, hy292⟩ : ∃ y_ : List Int, y_ = (x7_1 ++ bytesOf (⟨#[32, 9]⟩ : ByteArray)) := ⟨_, rfl⟩
             replace H : (if 0 ≤ x9_1 then (if x9_1 < (t259.size : Int) then (if (bt t259 x9_1) = 10 then (if (Int.tmod (wrap64 (x8_1 + 1)) 2) = 1 then (if y292.length + 3 < 140737488355328 then ((some (y292 ++ bytesOf (⟨#[32, 9, 32]⟩ : ByteArray) : List Int)).bind fun y295 => (if y295.length < 140737488355328 then (depotlaw24_RequestIdle.l0 kj13 l1 t259 (y295 ++ [bt t259 x9_1]) (wrap64 (x8_1 + 1)) (wrap64 (x9_1 + 1)) l0_0 l0_1 l0_2) else (none))) else (none)) else (if y292.length < 140737488355328 then (depotlaw24_RequestIdle.l0 kj13 l1 t259 (y292 ++ [bt t259 x9_1]) (wrap64 (x8_1 + 1)) (wrap64 (x9_1 + 1)) l0_0 l0_1 l0_2) else (none))) else (if y292.length < 140737488355328 then (depotlaw24_RequestIdle.l0 kj13 l1 t259 (y292 ++ [bt t259 x9_1]) (wrap64 (x8_1 + 1)) (wrap64 (x9_1 + 1)) l0_0 l0_1 l0_2) else (none))) else (none)) else (none)) = some r := by first | (rw [hy292]; with_reducible exact H) | (have H2_ := (Option.bind_some _ _).symm.trans H; rw [hy292]; with_reducible exact H2_) | (have H2_ := (Option.bind_some _ _).symm.trans H; with_reducible exact H2_) | with_reducible exact H | (rw [hy292]; exact H) | exact H
             have Ny292 := Aside0.mk hy292
             clear hy292
             by_cases c47 : 0 ≤ x9_1
             ·rw [if_pos c47] at H
              have c47b0 : decide (0 ≤ x9_1) = true := decide_eq_true c47
              clear c47
              by_cases c48 : x9_1 < (t259.size : Int)
              ·rw [if_pos c48] at H
               have c48b0 : decide (x9_1 < (t259.size : Int)) = true := decide_eq_true c48
               clear c48
               by_cases c50 : (bt t259 x9_1) = 10
               ·rw [if_pos c50] at H
                have c50b0 : ((bt t259 x9_1) == 10) = true := beq_iff_eq.mpr c50
                have c50b1 : ((bt t259 x9_1) != 10) = false := bne_eq_false_iff_eq.mpr c50
                clear c50
                by_cases c51 : (Int.tmod (wrap64 (x8_1 + 1)) 2) = 1
                ·rw [if_pos c51] at H
                 have c51b0 : ((Int.tmod (wrap64 (x8_1 + 1)) 2) == 1) = true := beq_iff_eq.mpr c51
                 have c51b1 : ((Int.tmod (wrap64 (x8_1 + 1)) 2) != 1) = false := bne_eq_false_iff_eq.mpr c51
                 clear c51
                 by_cases c52 : y292.length + 3 < 140737488355328
                 ·rw [if_pos c52] at H
                  have LMc52 := Aside0.mk c52
                  clear c52
                  obtain ⟨y295, hy295⟩ : ∃ y_ : List Int, y_ = (y292 ++ bytesOf (⟨#[32, 9, 32]⟩ : ByteArray)) := ⟨_, rfl⟩
                  replace H : (if y295.length < 140737488355328 then (depotlaw24_RequestIdle.l0 kj13 l1 t259 (y295 ++ [bt t259 x9_1]) (wrap64 (x8_1 + 1)) (wrap64 (x9_1 + 1)) l0_0 l0_1 l0_2) else (none)) = some r := by first | (rw [hy295]; with_reducible exact H) | (have H2_ := (Option.bind_some _ _).symm.trans H; rw [hy295]; with_reducible exact H2_) | (have H2_ := (Option.bind_some _ _).symm.trans H; with_reducible exact H2_) | with_reducible exact H | (rw [hy295]; exact H) | exact H
                  have Ny295 := Aside0.mk hy295
                  clear hy295
                  by_cases c54 : y295.length < 140737488355328
                  ·rw [if_pos c54] at H
                   have LMc54 := Aside0.mk c54
                   clear c54
                   obtain ⟨y298, hy298⟩ : ∃ y_ : List Int, y_ = (y295 ++ [bt t259 x9_1]) := ⟨_, rfl⟩
                   replace H : (depotlaw24_RequestIdle.l0 kj13 l1 t259 y298 (wrap64 (x8_1 + 1)) (wrap64 (x9_1 + 1)) l0_0 l0_1 l0_2) = some r := by first | (rw [hy298]; with_reducible exact H) | (have H2_ := (Option.bind_some _ _).symm.trans H; rw [hy298]; with_reducible exact H2_) | (have H2_ := (Option.bind_some _ _).symm.trans H; with_reducible exact H2_) | with_reducible exact H | (rw [hy298]; exact H) | exact H
                   have Ny298 := Aside0.mk hy298
                   clear hy298
                   have H' := Aside0.mk H
                   clear H
                   have p276 : 0 ≤ (x8_1 : Int) := of_decide_eq_true (by first | (with_reducible assumption) | assumption)
                   have q276 : x8_1 < (l1.length : Int) := of_decide_eq_true (by first | (with_reducible assumption) | assumption)
                   obtain ⟨ad276, e276, hx276_0⟩ := Kd.at_int HR1.out x8_1 p276 q276
                   cases e276
                   replace hx276_0 := (HB.out.cell (World.block_lt_of_cell? w _ hx276_0)).trans hx276_0
                   replace p276 := eq_true p276
                   replace q276 := eq_true q276
                   go_wp2_with (first | (at_builtin; refine print_append_str (w0 := w) w.heap.size rfl (.tmp 56) _ 42 9 5 rfl Tryd.underlying42 Tryd.underlying9 info5 u7 x7_1 (⟨#[32, 9]⟩ : ByteArray) rfl rfl ?aO ?aB ?aS ?aL ?_; (case aB => exact (W1 HB.out GE249.out)); (case aO => exact (Kd.own_of_R (Rq HO_7.out))); (case aS => exact (below_size (W1 HB.out GE249.out))); (case aL => have := LMc46.out; first | omega | (show _ + 2 ≤ _; omega)); intro v293 w55 ho0 hb hg; have ho := Kd.R_of_own (h1 := fun _ => rfl) (ok := fun _ => True) ho0 (fun _ _ => trivial); clear ho0; have hat := True.intro; rw [← Ny292.out] at ho; change Kd.R (Kd.int .u8) 5 w55 w.heap.size (fun _ => True) v293 y292 at ho; have n0_ := Aside0.mk (blk_grown (g := gb249) (Bq BK249.out) hg (Kd.R_ne HO_7.out BK249.out (by decide))); have n1_ := Aside0.mk (hb); have n2_ := Aside0.mk (ho); clear BK249; clear HB; clear HO_7; have BK249 := n0_; have HB := n1_; have HO294 := n2_; clear n0_ n1_ n2_; clear ho hb hg hat; have p49 : 0 ≤ (x9_1 : Int) := of_decide_eq_true (by first | (with_reducible assumption) | assumption); have q49 : x9_1 < (t259.size : Int) := of_decide_eq_true (by first | (with_reducible assumption) | assumption); have hx49 := bt_at t259 x9_1; replace p49 := eq_true p49; replace q49 := eq_true q49) | (at_builtin; refine print_append_str (w0 := w) w.heap.size rfl (.tmp 77) _ 42 9 5 rfl Tryd.underlying42 Tryd.underlying9 info5 v293 y292 (⟨#[32, 9, 32]⟩ : ByteArray) rfl rfl ?aO ?aB ?aS ?aL ?_; (case aB => exact (W1 HB.out GE249.out)); (case aO => exact (Kd.own_of_R (Rq HO294.out))); (case aS => exact (below_size (W1 HB.out GE249.out))); (case aL => have := LMc52.out; first | omega | (show _ + 3 ≤ _; omega)); intro v296 w56 ho0 hb hg; have ho := Kd.R_of_own (h1 := fun _ => rfl) (ok := fun _ => True) ho0 (fun _ _ => trivial); clear ho0; have hat := True.intro; rw [← Ny295.out] at ho; change Kd.R (Kd.int .u8) 5 w56 w.heap.size (fun _ => True) v296 y295 at ho; have n0_ := Aside0.mk (blk_grown (g := gb249) (Bq BK249.out) hg (Kd.R_ne HO294.out BK249.out (by decide))); have n1_ := Aside0.mk (hb); have n2_ := Aside0.mk (ho); clear BK249; clear HB; clear HO294; have BK249 := n0_; have HB := n1_; have HO297 := n2_; clear n0_ n1_ n2_; clear ho hb hg hat; have p53 : 0 ≤ (x9_1 : Int) := of_decide_eq_true (by first | (with_reducible assumption) | assumption); have q53 : x9_1 < (t259.size : Int) := of_decide_eq_true (by first | (with_reducible assumption) | assumption); have hx53 := bt_at t259 x9_1; replace p53 := eq_true p53; replace q53 := eq_true q53) | ((with_reducible refine gate_builtin (b := .append) (xs := #[.tmp 79, .tmp 83]) rfl ?_); (try (refine gate_guard (by rfl) ?_; dsimp only)); at_builtin; refine Kd.R_append (Kd.int .u8) (w0 := w) w.heap.size rfl (.tmp 79) (.tmp 83) 42 5 (.int .u8 0) 1 rfl Tryd.underlying42 info5 rfl (by decide) (by omega) v296 y295 (bt t259 x9_1) [.int .u8 (bt t259 x9_1)] (fun _ => True) (fun _ => False) rfl rfl ?aP (fun _ hk => hk.elim) ?aF ?aO ?aB ?aS ?aL ?_; (case aP => exact rfl); (case aB => exact (W1 HB.out GE249.out)); (case aF => exact (fun _ _ => trivial)); (case aO => exact (Rq HO297.out)); (case aS => exact (below_size (W1 HB.out GE249.out))); (case aL => have := LMc54.out; omega); intro v299 w57 ho hb hg hat; rw [← Ny298.out] at ho; have n0_ := Aside0.mk (blk_grown (g := gb249) (Bq BK249.out) hg (Kd.R_ne HO297.out BK249.out (by decide))); have n1_ := Aside0.mk (hb); have n2_ := Aside0.mk (ho); clear BK249; clear HB; clear HO297; have BK249 := n0_; have HB := n1_; have HO300 := n2_; clear n0_ n1_ n2_; clear ho hb hg hat))
                   go_roundg kj13
                   case measure => have := HK1.out; have := HJ13.out; omega
                   case rel => exact ⟨(y298), (wrap64 (x8_1 + 1)), (wrap64 (x9_1 + 1)), (by first | rfl | (simp; done) | (simp [*]; done)), (by first | rfl | (simp; done) | (simp [*]; done)), H', ⟨by have := HK1.out; have := HJ13.out; omega⟩, ⟨by (with_reducible repeat (first | apply Kd.R_alloc | apply Kd.R_drewN | apply Kd.R_drew)); exact HO300.out⟩, ⟨by (with_reducible repeat (first | refine blk_drewN ?_ _ | refine blk_drew ?_ | refine blk_alloc ?_ _)); exact BK249.out⟩, ⟨by repeat (first | (with_reducible first | exact HB.out | apply below_alloc | apply pw_below_drewN | apply below_drew1 | refine below_set ?_ GE249.out) | exact HB.out)⟩⟩
                  ·rw [if_neg c54] at H
                   exact absurd H (by simp)
                 ·rw [if_neg c52] at H
                  exact absurd H (by simp)
                ·rw [if_neg c51] at H
                 have c51b0 : ((Int.tmod (wrap64 (x8_1 + 1)) 2) == 1) = false := beq_eq_false_iff_ne.mpr c51
                 have c51b1 : ((Int.tmod (wrap64 (x8_1 + 1)) 2) != 1) = true := bne_iff_ne.mpr c51
                 by_cases c59 : y292.length < 140737488355328
                 ·rw [if_pos c59] at H
                  have LMc59 := Aside0.mk c59
                  clear c59
                  obtain ⟨y301, hy301⟩ : ∃ y_ : List Int, y_ = (y292 ++ [bt t259 x9_1]) := ⟨_, rfl⟩
                  replace H : (depotlaw24_RequestIdle.l0 kj13 l1 t259 y301 (wrap64 (x8_1 + 1)) (wrap64 (x9_1 + 1)) l0_0 l0_1 l0_2) = some r := by first | (rw [hy301]; with_reducible exact H) | (have H2_ := (Option.bind_some _ _).symm.trans H; rw [hy301]; with_reducible exact H2_) | (have H2_ := (Option.bind_some _ _).symm.trans H; with_reducible exact H2_) | with_reducible exact H | (rw [hy301]; exact H) | exact H
                  have Ny301 := Aside0.mk hy301
                  clear hy301
                  have H' := Aside0.mk H
                  clear H
                  have p276 : 0 ≤ (x8_1 : Int) := of_decide_eq_true (by first | (with_reducible assumption) | assumption)
                  have q276 : x8_1 < (l1.length : Int) := of_decide_eq_true (by first | (with_reducible assumption) | assumption)
                  obtain ⟨ad276, e276, hx276_0⟩ := Kd.at_int HR1.out x8_1 p276 q276
                  cases e276
                  replace hx276_0 := (HB.out.cell (World.block_lt_of_cell? w _ hx276_0)).trans hx276_0
                  replace p276 := eq_true p276
                  replace q276 := eq_true q276
                  go_wp2_with (first | (at_builtin; refine print_append_str (w0 := w) w.heap.size rfl (.tmp 56) _ 42 9 5 rfl Tryd.underlying42 Tryd.underlying9 info5 u7 x7_1 (⟨#[32, 9]⟩ : ByteArray) rfl rfl ?aO ?aB ?aS ?aL ?_; (case aB => exact (W1 HB.out GE249.out)); (case aO => exact (Kd.own_of_R (Rq HO_7.out))); (case aS => exact (below_size (W1 HB.out GE249.out))); (case aL => have := LMc46.out; first | omega | (show _ + 2 ≤ _; omega)); intro v293 w60 ho0 hb hg; have ho := Kd.R_of_own (h1 := fun _ => rfl) (ok := fun _ => True) ho0 (fun _ _ => trivial); clear ho0; have hat := True.intro; rw [← Ny292.out] at ho; change Kd.R (Kd.int .u8) 5 w60 w.heap.size (fun _ => True) v293 y292 at ho; have n0_ := Aside0.mk (blk_grown (g := gb249) (Bq BK249.out) hg (Kd.R_ne HO_7.out BK249.out (by decide))); have n1_ := Aside0.mk (hb); have n2_ := Aside0.mk (ho); clear BK249; clear HB; clear HO_7; have BK249 := n0_; have HB := n1_; have HO294 := n2_; clear n0_ n1_ n2_; clear ho hb hg hat; have p49 : 0 ≤ (x9_1 : Int) := of_decide_eq_true (by first | (with_reducible assumption) | assumption); have q49 : x9_1 < (t259.size : Int) := of_decide_eq_true (by first | (with_reducible assumption) | assumption); have hx49 := bt_at t259 x9_1; replace p49 := eq_true p49; replace q49 := eq_true q49; have p58 : 0 ≤ (x9_1 : Int) := of_decide_eq_true (by first | (with_reducible assumption) | assumption); have q58 : x9_1 < (t259.size : Int) := of_decide_eq_true (by first | (with_reducible assumption) | assumption); have hx58 := bt_at t259 x9_1; replace p58 := eq_true p58; replace q58 := eq_true q58) | ((with_reducible refine gate_builtin (b := .append) (xs := #[.tmp 79, .tmp 83]) rfl ?_); (try (refine gate_guard (by rfl) ?_; dsimp only)); at_builtin; refine Kd.R_append (Kd.int .u8) (w0 := w) w.heap.size rfl (.tmp 79) (.tmp 83) 42 5 (.int .u8 0) 1 rfl Tryd.underlying42 info5 rfl (by decide) (by omega) v293 y292 (bt t259 x9_1) [.int .u8 (bt t259 x9_1)] (fun _ => True) (fun _ => False) rfl rfl ?aP (fun _ hk => hk.elim) ?aF ?aO ?aB ?aS ?aL ?_; (case aP => exact rfl); (case aB => exact (W1 HB.out GE249.out)); (case aF => exact (fun _ _ => trivial)); (case aO => exact (Rq HO294.out)); (case aS => exact (below_size (W1 HB.out GE249.out))); (case aL => have := LMc59.out; omega); intro v302 w61 ho hb hg hat; rw [← Ny301.out] at ho; have n0_ := Aside0.mk (blk_grown (g := gb249) (Bq BK249.out) hg (Kd.R_ne HO294.out BK249.out (by decide))); have n1_ := Aside0.mk (hb); have n2_ := Aside0.mk (ho); clear BK249; clear HB; clear HO294; have BK249 := n0_; have HB := n1_; have HO303 := n2_; clear n0_ n1_ n2_; clear ho hb hg hat))
                  go_roundg kj13
                  case measure => have := HK1.out; have := HJ13.out; omega
                  case rel => exact ⟨(y301), (wrap64 (x8_1 + 1)), (wrap64 (x9_1 + 1)), (by first | rfl | (simp; done) | (simp [*]; done)), (by first | rfl | (simp; done) | (simp [*]; done)), H', ⟨by have := HK1.out; have := HJ13.out; omega⟩, ⟨by (with_reducible repeat (first | apply Kd.R_alloc | apply Kd.R_drewN | apply Kd.R_drew)); exact HO303.out⟩, ⟨by (with_reducible repeat (first | refine blk_drewN ?_ _ | refine blk_drew ?_ | refine blk_alloc ?_ _)); exact BK249.out⟩, ⟨by repeat (first | (with_reducible first | exact HB.out | apply below_alloc | apply pw_below_drewN | apply below_drew1 | refine below_set ?_ GE249.out) | exact HB.out)⟩⟩
                 ·rw [if_neg c59] at H
                  exact absurd H (by simp)
               ·rw [if_neg c50] at H
                have c50b0 : ((bt t259 x9_1) == 10) = false := beq_eq_false_iff_ne.mpr c50
                have c50b1 : ((bt t259 x9_1) != 10) = true := bne_iff_ne.mpr c50
                by_cases c63 : y292.length < 140737488355328
                ·rw [if_pos c63] at H
                 have LMc63 := Aside0.mk c63
                 clear c63
                 obtain ⟨y304, hy304⟩ : ∃ y_ : List Int, y_ = (y292 ++ [bt t259 x9_1]) := ⟨_, rfl⟩
                 replace H : (depotlaw24_RequestIdle.l0 kj13 l1 t259 y304 (wrap64 (x8_1 + 1)) (wrap64 (x9_1 + 1)) l0_0 l0_1 l0_2) = some r := by first | (rw [hy304]; with_reducible exact H) | (have H2_ := (Option.bind_some _ _).symm.trans H; rw [hy304]; with_reducible exact H2_) | (have H2_ := (Option.bind_some _ _).symm.trans H; with_reducible exact H2_) | with_reducible exact H | (rw [hy304]; exact H) | exact H
                 have Ny304 := Aside0.mk hy304
                 clear hy304
                 have H' := Aside0.mk H
                 clear H
                 have p276 : 0 ≤ (x8_1 : Int) := of_decide_eq_true (by first | (with_reducible assumption) | assumption)
                 have q276 : x8_1 < (l1.length : Int) := of_decide_eq_true (by first | (with_reducible assumption) | assumption)
                 obtain ⟨ad276, e276, hx276_0⟩ := Kd.at_int HR1.out x8_1 p276 q276
                 cases e276
                 replace hx276_0 := (HB.out.cell (World.block_lt_of_cell? w _ hx276_0)).trans hx276_0
                 replace p276 := eq_true p276
                 replace q276 := eq_true q276
                 go_wp2_with (first | (at_builtin; refine print_append_str (w0 := w) w.heap.size rfl (.tmp 56) _ 42 9 5 rfl Tryd.underlying42 Tryd.underlying9 info5 u7 x7_1 (⟨#[32, 9]⟩ : ByteArray) rfl rfl ?aO ?aB ?aS ?aL ?_; (case aB => exact (W1 HB.out GE249.out)); (case aO => exact (Kd.own_of_R (Rq HO_7.out))); (case aS => exact (below_size (W1 HB.out GE249.out))); (case aL => have := LMc46.out; first | omega | (show _ + 2 ≤ _; omega)); intro v293 w64 ho0 hb hg; have ho := Kd.R_of_own (h1 := fun _ => rfl) (ok := fun _ => True) ho0 (fun _ _ => trivial); clear ho0; have hat := True.intro; rw [← Ny292.out] at ho; change Kd.R (Kd.int .u8) 5 w64 w.heap.size (fun _ => True) v293 y292 at ho; have n0_ := Aside0.mk (blk_grown (g := gb249) (Bq BK249.out) hg (Kd.R_ne HO_7.out BK249.out (by decide))); have n1_ := Aside0.mk (hb); have n2_ := Aside0.mk (ho); clear BK249; clear HB; clear HO_7; have BK249 := n0_; have HB := n1_; have HO294 := n2_; clear n0_ n1_ n2_; clear ho hb hg hat; have p49 : 0 ≤ (x9_1 : Int) := of_decide_eq_true (by first | (with_reducible assumption) | assumption); have q49 : x9_1 < (t259.size : Int) := of_decide_eq_true (by first | (with_reducible assumption) | assumption); have hx49 := bt_at t259 x9_1; replace p49 := eq_true p49; replace q49 := eq_true q49; have p62 : 0 ≤ (x9_1 : Int) := of_decide_eq_true (by first | (with_reducible assumption) | assumption); have q62 : x9_1 < (t259.size : Int) := of_decide_eq_true (by first | (with_reducible assumption) | assumption); have hx62 := bt_at t259 x9_1; replace p62 := eq_true p62; replace q62 := eq_true q62) | ((with_reducible refine gate_builtin (b := .append) (xs := #[.tmp 79, .tmp 83]) rfl ?_); (try (refine gate_guard (by rfl) ?_; dsimp only)); at_builtin; refine Kd.R_append (Kd.int .u8) (w0 := w) w.heap.size rfl (.tmp 79) (.tmp 83) 42 5 (.int .u8 0) 1 rfl Tryd.underlying42 info5 rfl (by decide) (by omega) v293 y292 (bt t259 x9_1) [.int .u8 (bt t259 x9_1)] (fun _ => True) (fun _ => False) rfl rfl ?aP (fun _ hk => hk.elim) ?aF ?aO ?aB ?aS ?aL ?_; (case aP => exact rfl); (case aB => exact (W1 HB.out GE249.out)); (case aF => exact (fun _ _ => trivial)); (case aO => exact (Rq HO294.out)); (case aS => exact (below_size (W1 HB.out GE249.out))); (case aL => have := LMc63.out; omega); intro v305 w65 ho hb hg hat; rw [← Ny304.out] at ho; have n0_ := Aside0.mk (blk_grown (g := gb249) (Bq BK249.out) hg (Kd.R_ne HO294.out BK249.out (by decide))); have n1_ := Aside0.mk (hb); have n2_ := Aside0.mk (ho); clear BK249; clear HB; clear HO294; have BK249 := n0_; have HB := n1_; have HO306 := n2_; clear n0_ n1_ n2_; clear ho hb hg hat))
                 go_roundg kj13
                 case measure => have := HK1.out; have := HJ13.out; omega
                 case rel => exact ⟨(y304), (wrap64 (x8_1 + 1)), (wrap64 (x9_1 + 1)), (by first | rfl | (simp; done) | (simp [*]; done)), (by first | rfl | (simp; done) | (simp [*]; done)), H', ⟨by have := HK1.out; have := HJ13.out; omega⟩, ⟨by (with_reducible repeat (first | apply Kd.R_alloc | apply Kd.R_drewN | apply Kd.R_drew)); exact HO306.out⟩, ⟨by (with_reducible repeat (first | refine blk_drewN ?_ _ | refine blk_drew ?_ | refine blk_alloc ?_ _)); exact BK249.out⟩, ⟨by repeat (first | (with_reducible first | exact HB.out | apply below_alloc | apply pw_below_drewN | apply below_drew1 | refine below_set ?_ GE249.out) | exact HB.out)⟩⟩
                ·rw [if_neg c63] at H
                 exact absurd H (by simp)
              ·rw [if_neg c48] at H
               exact absurd H (by simp)
             ·rw [if_neg c47] at H
              exact absurd H (by simp)
            ·rw [if_neg c46] at H
             exact absurd H (by simp)
           ·rw [if_neg c45] at H
            have c45b0 : ((Int.tmod (wrap64 ((Int.tmod (rd l1 x8_1) 5) + 5)) 5) == 1) = false := beq_eq_false_iff_ne.mpr c45
            have c45b1 : ((Int.tmod (wrap64 ((Int.tmod (rd l1 x8_1) 5) + 5)) 5) != 1) = true := bne_iff_ne.mpr c45
            by_cases c66 : (Int.tmod (wrap64 ((Int.tmod (rd l1 x8_1) 5) + 5)) 5) = 2
            ·rw [if_pos c66] at H
             have c66b0 : ((Int.tmod (wrap64 ((Int.tmod (rd l1 x8_1) 5) + 5)) 5) == 2) = true := beq_iff_eq.mpr c66
             have c66b1 : ((Int.tmod (wrap64 ((Int.tmod (rd l1 x8_1) 5) + 5)) 5) != 2) = false := bne_eq_false_iff_eq.mpr c66
             clear c66
             by_cases c67 : x7_1.length + 4 < 140737488355328
             ·rw [if_pos c67] at H
              have LMc67 := Aside0.mk c67
              clear c67
              obtain ⟨y307, hy307⟩ : ∃ y_ : List Int, y_ = (x7_1 ++ bytesOf (⟨#[10, 32, 9, 10]⟩ : ByteArray)) := ⟨_, rfl⟩
              replace H : (if 0 ≤ x9_1 then (if x9_1 < (t259.size : Int) then (if (bt t259 x9_1) = 10 then (if (Int.tmod (wrap64 (x8_1 + 1)) 2) = 1 then (if y307.length + 3 < 140737488355328 then ((some (y307 ++ bytesOf (⟨#[32, 9, 32]⟩ : ByteArray) : List Int)).bind fun y310 => (if y310.length < 140737488355328 then (depotlaw24_RequestIdle.l0 kj13 l1 t259 (y310 ++ [bt t259 x9_1]) (wrap64 (x8_1 + 1)) (wrap64 (x9_1 + 1)) l0_0 l0_1 l0_2) else (none))) else (none)) else (if y307.length < 140737488355328 then (depotlaw24_RequestIdle.l0 kj13 l1 t259 (y307 ++ [bt t259 x9_1]) (wrap64 (x8_1 + 1)) (wrap64 (x9_1 + 1)) l0_0 l0_1 l0_2) else (none))) else (if y307.length < 140737488355328 then (depotlaw24_RequestIdle.l0 kj13 l1 t259 (y307 ++ [bt t259 x9_1]) (wrap64 (x8_1 + 1)) (wrap64 (x9_1 + 1)) l0_0 l0_1 l0_2) else (none))) else (none)) else (none)) = some r := by first | (rw [hy307]; with_reducible exact H) | (have H2_ := (Option.bind_some _ _).symm.trans H; rw [hy307]; with_reducible exact H2_) | (have H2_ := (Option.bind_some _ _).symm.trans H; with_reducible exact H2_) | with_reducible exact H | (rw [hy307]; exact H) | exact H
              have Ny307 := Aside0.mk hy307
              clear hy307
              by_cases c68 : 0 ≤ x9_1
              ·rw [if_pos c68] at H
               have c68b0 : decide (0 ≤ x9_1) = true := decide_eq_true c68
               clear c68
               by_cases c69 : x9_1 < (t259.size : Int)
               ·rw [if_pos c69] at H
                have c69b0 : decide (x9_1 < (t259.size : Int)) = true := decide_eq_true c69
                clear c69
                by_cases c71 : (bt t259 x9_1) = 10
                ·rw [if_pos c71] at H
                 have c71b0 : ((bt t259 x9_1) == 10) = true := beq_iff_eq.mpr c71
                 have c71b1 : ((bt t259 x9_1) != 10) = false := bne_eq_false_iff_eq.mpr c71
                 clear c71
                 by_cases c72 : (Int.tmod (wrap64 (x8_1 + 1)) 2) = 1
                 ·rw [if_pos c72] at H
                  have c72b0 : ((Int.tmod (wrap64 (x8_1 + 1)) 2) == 1) = true := beq_iff_eq.mpr c72
                  have c72b1 : ((Int.tmod (wrap64 (x8_1 + 1)) 2) != 1) = false := bne_eq_false_iff_eq.mpr c72
                  clear c72
                  by_cases c73 : y307.length + 3 < 140737488355328
                  ·rw [if_pos c73] at H
                   have LMc73 := Aside0.mk c73
                   clear c73
                   obtain ⟨y310, hy310⟩ : ∃ y_ : List Int, y_ = (y307 ++ bytesOf (⟨#[32, 9, 32]⟩ : ByteArray)) := ⟨_, rfl⟩
                   replace H : (if y310.length < 140737488355328 then (depotlaw24_RequestIdle.l0 kj13 l1 t259 (y310 ++ [bt t259 x9_1]) (wrap64 (x8_1 + 1)) (wrap64 (x9_1 + 1)) l0_0 l0_1 l0_2) else (none)) = some r := by first | (rw [hy310]; with_reducible exact H) | (have H2_ := (Option.bind_some _ _).symm.trans H; rw [hy310]; with_reducible exact H2_) | (have H2_ := (Option.bind_some _ _).symm.trans H; with_reducible exact H2_) | with_reducible exact H | (rw [hy310]; exact H) | exact H
                   have Ny310 := Aside0.mk hy310
                   clear hy310
                   by_cases c75 : y310.length < 140737488355328
                   ·rw [if_pos c75] at H
                    have LMc75 := Aside0.mk c75
                    clear c75
                    obtain ⟨y313, hy313⟩ : ∃ y_ : List Int, y_ = (y310 ++ [bt t259 x9_1]) := ⟨_, rfl⟩
                    replace H : (depotlaw24_RequestIdle.l0 kj13 l1 t259 y313 (wrap64 (x8_1 + 1)) (wrap64 (x9_1 + 1)) l0_0 l0_1 l0_2) = some r := by first | (rw [hy313]; with_reducible exact H) | (have H2_ := (Option.bind_some _ _).symm.trans H; rw [hy313]; with_reducible exact H2_) | (have H2_ := (Option.bind_some _ _).symm.trans H; with_reducible exact H2_) | with_reducible exact H | (rw [hy313]; exact H) | exact H
                    have Ny313 := Aside0.mk hy313
                    clear hy313
                    have H' := Aside0.mk H
                    clear H
                    have p276 : 0 ≤ (x8_1 : Int) := of_decide_eq_true (by first | (with_reducible assumption) | assumption)
                    have q276 : x8_1 < (l1.length : Int) := of_decide_eq_true (by first | (with_reducible assumption) | assumption)
                    obtain ⟨ad276, e276, hx276_0⟩ := Kd.at_int HR1.out x8_1 p276 q276
                    cases e276
                    replace hx276_0 := (HB.out.cell (World.block_lt_of_cell? w _ hx276_0)).trans hx276_0
                    replace p276 := eq_true p276
                    replace q276 := eq_true q276
                    go_wp2_with (first | (at_builtin; refine print_append_str (w0 := w) w.heap.size rfl (.tmp 60) _ 42 9 5 rfl Tryd.underlying42 Tryd.underlying9 info5 u7 x7_1 (⟨#[10, 32, 9, 10]⟩ : ByteArray) rfl rfl ?aO ?aB ?aS ?aL ?_; (case aB => exact (W1 HB.out GE249.out)); (case aO => exact (Kd.own_of_R (Rq HO_7.out))); (case aS => exact (below_size (W1 HB.out GE249.out))); (case aL => have := LMc67.out; first | omega | (show _ + 4 ≤ _; omega)); intro v308 w76 ho0 hb hg; have ho := Kd.R_of_own (h1 := fun _ => rfl) (ok := fun _ => True) ho0 (fun _ _ => trivial); clear ho0; have hat := True.intro; rw [← Ny307.out] at ho; change Kd.R (Kd.int .u8) 5 w76 w.heap.size (fun _ => True) v308 y307 at ho; have n0_ := Aside0.mk (blk_grown (g := gb249) (Bq BK249.out) hg (Kd.R_ne HO_7.out BK249.out (by decide))); have n1_ := Aside0.mk (hb); have n2_ := Aside0.mk (ho); clear BK249; clear HB; clear HO_7; have BK249 := n0_; have HB := n1_; have HO309 := n2_; clear n0_ n1_ n2_; clear ho hb hg hat; have p70 : 0 ≤ (x9_1 : Int) := of_decide_eq_true (by first | (with_reducible assumption) | assumption); have q70 : x9_1 < (t259.size : Int) := of_decide_eq_true (by first | (with_reducible assumption) | assumption); have hx70 := bt_at t259 x9_1; replace p70 := eq_true p70; replace q70 := eq_true q70) | (at_builtin; refine print_append_str (w0 := w) w.heap.size rfl (.tmp 77) _ 42 9 5 rfl Tryd.underlying42 Tryd.underlying9 info5 v308 y307 (⟨#[32, 9, 32]⟩ : ByteArray) rfl rfl ?aO ?aB ?aS ?aL ?_; (case aB => exact (W1 HB.out GE249.out)); (case aO => exact (Kd.own_of_R (Rq HO309.out))); (case aS => exact (below_size (W1 HB.out GE249.out))); (case aL => have := LMc73.out; first | omega | (show _ + 3 ≤ _; omega)); intro v311 w77 ho0 hb hg; have ho := Kd.R_of_own (h1 := fun _ => rfl) (ok := fun _ => True) ho0 (fun _ _ => trivial); clear ho0; have hat := True.intro; rw [← Ny310.out] at ho; change Kd.R (Kd.int .u8) 5 w77 w.heap.size (fun _ => True) v311 y310 at ho; have n0_ := Aside0.mk (blk_grown (g := gb249) (Bq BK249.out) hg (Kd.R_ne HO309.out BK249.out (by decide))); have n1_ := Aside0.mk (hb); have n2_ := Aside0.mk (ho); clear BK249; clear HB; clear HO309; have BK249 := n0_; have HB := n1_; have HO312 := n2_; clear n0_ n1_ n2_; clear ho hb hg hat; have p74 : 0 ≤ (x9_1 : Int) := of_decide_eq_true (by first | (with_reducible assumption) | assumption); have q74 : x9_1 < (t259.size : Int) := of_decide_eq_true (by first | (with_reducible assumption) | assumption); have hx74 := bt_at t259 x9_1; replace p74 := eq_true p74; replace q74 := eq_true q74) | ((with_reducible refine gate_builtin (b := .append) (xs := #[.tmp 79, .tmp 83]) rfl ?_); (try (refine gate_guard (by rfl) ?_; dsimp only)); at_builtin; refine Kd.R_append (Kd.int .u8) (w0 := w) w.heap.size rfl (.tmp 79) (.tmp 83) 42 5 (.int .u8 0) 1 rfl Tryd.underlying42 info5 rfl (by decide) (by omega) v311 y310 (bt t259 x9_1) [.int .u8 (bt t259 x9_1)] (fun _ => True) (fun _ => False) rfl rfl ?aP (fun _ hk => hk.elim) ?aF ?aO ?aB ?aS ?aL ?_; (case aP => exact rfl); (case aB => exact (W1 HB.out GE249.out)); (case aF => exact (fun _ _ => trivial)); (case aO => exact (Rq HO312.out)); (case aS => exact (below_size (W1 HB.out GE249.out))); (case aL => have := LMc75.out; omega); intro v314 w78 ho hb hg hat; rw [← Ny313.out] at ho; have n0_ := Aside0.mk (blk_grown (g := gb249) (Bq BK249.out) hg (Kd.R_ne HO312.out BK249.out (by decide))); have n1_ := Aside0.mk (hb); have n2_ := Aside0.mk (ho); clear BK249; clear HB; clear HO312; have BK249 := n0_; have HB := n1_; have HO315 := n2_; clear n0_ n1_ n2_; clear ho hb hg hat))
                    go_roundg kj13
                    case measure => have := HK1.out; have := HJ13.out; omega
                    case rel => exact ⟨(y313), (wrap64 (x8_1 + 1)), (wrap64 (x9_1 + 1)), (by first | rfl | (simp; done) | (simp [*]; done)), (by first | rfl | (simp; done) | (simp [*]; done)), H', ⟨by have := HK1.out; have := HJ13.out; omega⟩, ⟨by (with_reducible repeat (first | apply Kd.R_alloc | apply Kd.R_drewN | apply Kd.R_drew)); exact HO315.out⟩, ⟨by (with_reducible repeat (first | refine blk_drewN ?_ _ | refine blk_drew ?_ | refine blk_alloc ?_ _)); exact BK249.out⟩, ⟨by repeat (first | (with_reducible first | exact HB.out | apply below_alloc | apply pw_below_drewN | apply below_drew1 | refine below_set ?_ GE249.out) | exact HB.out)⟩⟩
                   ·rw [if_neg c75] at H
                    exact absurd H (by simp)
                  ·rw [if_neg c73] at H
                   exact absurd H (by simp)
                 ·rw [if_neg c72] at H
                  have c72b0 : ((Int.tmod (wrap64 (x8_1 + 1)) 2) == 1) = false := beq_eq_false_iff_ne.mpr c72
                  have c72b1 : ((Int.tmod (wrap64 (x8_1 + 1)) 2) != 1) = true := bne_iff_ne.mpr c72
                  by_cases c80 : y307.length < 140737488355328
                  ·rw [if_pos c80] at H
                   have LMc80 := Aside0.mk c80
                   clear c80
                   obtain ⟨y316, hy316⟩ : ∃ y_ : List Int, y_ = (y307 ++ [bt t259 x9_1]) := ⟨_, rfl⟩
                   replace H : (depotlaw24_RequestIdle.l0 kj13 l1 t259 y316 (wrap64 (x8_1 + 1)) (wrap64 (x9_1 + 1)) l0_0 l0_1 l0_2) = some r := by first | (rw [hy316]; with_reducible exact H) | (have H2_ := (Option.bind_some _ _).symm.trans H; rw [hy316]; with_reducible exact H2_) | (have H2_ := (Option.bind_some _ _).symm.trans H; with_reducible exact H2_) | with_reducible exact H | (rw [hy316]; exact H) | exact H
                   have Ny316 := Aside0.mk hy316
                   clear hy316
                   have H' := Aside0.mk H
                   clear H
                   have p276 : 0 ≤ (x8_1 : Int) := of_decide_eq_true (by first | (with_reducible assumption) | assumption)
                   have q276 : x8_1 < (l1.length : Int) := of_decide_eq_true (by first | (with_reducible assumption) | assumption)
                   obtain ⟨ad276, e276, hx276_0⟩ := Kd.at_int HR1.out x8_1 p276 q276
                   cases e276
                   replace hx276_0 := (HB.out.cell (World.block_lt_of_cell? w _ hx276_0)).trans hx276_0
                   replace p276 := eq_true p276
                   replace q276 := eq_true q276
                   go_wp2_with (first | (at_builtin; refine print_append_str (w0 := w) w.heap.size rfl (.tmp 60) _ 42 9 5 rfl Tryd.underlying42 Tryd.underlying9 info5 u7 x7_1 (⟨#[10, 32, 9, 10]⟩ : ByteArray) rfl rfl ?aO ?aB ?aS ?aL ?_; (case aB => exact (W1 HB.out GE249.out)); (case aO => exact (Kd.own_of_R (Rq HO_7.out))); (case aS => exact (below_size (W1 HB.out GE249.out))); (case aL => have := LMc67.out; first | omega | (show _ + 4 ≤ _; omega)); intro v308 w81 ho0 hb hg; have ho := Kd.R_of_own (h1 := fun _ => rfl) (ok := fun _ => True) ho0 (fun _ _ => trivial); clear ho0; have hat := True.intro; rw [← Ny307.out] at ho; change Kd.R (Kd.int .u8) 5 w81 w.heap.size (fun _ => True) v308 y307 at ho; have n0_ := Aside0.mk (blk_grown (g := gb249) (Bq BK249.out) hg (Kd.R_ne HO_7.out BK249.out (by decide))); have n1_ := Aside0.mk (hb); have n2_ := Aside0.mk (ho); clear BK249; clear HB; clear HO_7; have BK249 := n0_; have HB := n1_; have HO309 := n2_; clear n0_ n1_ n2_; clear ho hb hg hat; have p70 : 0 ≤ (x9_1 : Int) := of_decide_eq_true (by first | (with_reducible assumption) | assumption); have q70 : x9_1 < (t259.size : Int) := of_decide_eq_true (by first | (with_reducible assumption) | assumption); have hx70 := bt_at t259 x9_1; replace p70 := eq_true p70; replace q70 := eq_true q70; have p79 : 0 ≤ (x9_1 : Int) := of_decide_eq_true (by first | (with_reducible assumption) | assumption); have q79 : x9_1 < (t259.size : Int) := of_decide_eq_true (by first | (with_reducible assumption) | assumption); have hx79 := bt_at t259 x9_1; replace p79 := eq_true p79; replace q79 := eq_true q79) | ((with_reducible refine gate_builtin (b := .append) (xs := #[.tmp 79, .tmp 83]) rfl ?_); (try (refine gate_guard (by rfl) ?_; dsimp only)); at_builtin; refine Kd.R_append (Kd.int .u8) (w0 := w) w.heap.size rfl (.tmp 79) (.tmp 83) 42 5 (.int .u8 0) 1 rfl Tryd.underlying42 info5 rfl (by decide) (by omega) v308 y307 (bt t259 x9_1) [.int .u8 (bt t259 x9_1)] (fun _ => True) (fun _ => False) rfl rfl ?aP (fun _ hk => hk.elim) ?aF ?aO ?aB ?aS ?aL ?_; (case aP => exact rfl); (case aB => exact (W1 HB.out GE249.out)); (case aF => exact (fun _ _ => trivial)); (case aO => exact (Rq HO309.out)); (case aS => exact (below_size (W1 HB.out GE249.out))); (case aL => have := LMc80.out; omega); intro v317 w82 ho hb hg hat; rw [← Ny316.out] at ho; have n0_ := Aside0.mk (blk_grown (g := gb249) (Bq BK249.out) hg (Kd.R_ne HO309.out BK249.out (by decide))); have n1_ := Aside0.mk (hb); have n2_ := Aside0.mk (ho); clear BK249; clear HB; clear HO309; have BK249 := n0_; have HB := n1_; have HO318 := n2_; clear n0_ n1_ n2_; clear ho hb hg hat))
                   go_roundg kj13
                   case measure => have := HK1.out; have := HJ13.out; omega
                   case rel => exact ⟨(y316), (wrap64 (x8_1 + 1)), (wrap64 (x9_1 + 1)), (by first | rfl | (simp; done) | (simp [*]; done)), (by first | rfl | (simp; done) | (simp [*]; done)), H', ⟨by have := HK1.out; have := HJ13.out; omega⟩, ⟨by (with_reducible repeat (first | apply Kd.R_alloc | apply Kd.R_drewN | apply Kd.R_drew)); exact HO318.out⟩, ⟨by (with_reducible repeat (first | refine blk_drewN ?_ _ | refine blk_drew ?_ | refine blk_alloc ?_ _)); exact BK249.out⟩, ⟨by repeat (first | (with_reducible first | exact HB.out | apply below_alloc | apply pw_below_drewN | apply below_drew1 | refine below_set ?_ GE249.out) | exact HB.out)⟩⟩
                  ·rw [if_neg c80] at H
                   exact absurd H (by simp)
                ·rw [if_neg c71] at H
                 have c71b0 : ((bt t259 x9_1) == 10) = false := beq_eq_false_iff_ne.mpr c71
                 have c71b1 : ((bt t259 x9_1) != 10) = true := bne_iff_ne.mpr c71
                 by_cases c84 : y307.length < 140737488355328
                 ·rw [if_pos c84] at H
                  have LMc84 := Aside0.mk c84
                  clear c84
                  obtain ⟨y319, hy319⟩ : ∃ y_ : List Int, y_ = (y307 ++ [bt t259 x9_1]) := ⟨_, rfl⟩
                  replace H : (depotlaw24_RequestIdle.l0 kj13 l1 t259 y319 (wrap64 (x8_1 + 1)) (wrap64 (x9_1 + 1)) l0_0 l0_1 l0_2) = some r := by first | (rw [hy319]; with_reducible exact H) | (have H2_ := (Option.bind_some _ _).symm.trans H; rw [hy319]; with_reducible exact H2_) | (have H2_ := (Option.bind_some _ _).symm.trans H; with_reducible exact H2_) | with_reducible exact H | (rw [hy319]; exact H) | exact H
                  have Ny319 := Aside0.mk hy319
                  clear hy319
                  have H' := Aside0.mk H
                  clear H
                  have p276 : 0 ≤ (x8_1 : Int) := of_decide_eq_true (by first | (with_reducible assumption) | assumption)
                  have q276 : x8_1 < (l1.length : Int) := of_decide_eq_true (by first | (with_reducible assumption) | assumption)
                  obtain ⟨ad276, e276, hx276_0⟩ := Kd.at_int HR1.out x8_1 p276 q276
                  cases e276
                  replace hx276_0 := (HB.out.cell (World.block_lt_of_cell? w _ hx276_0)).trans hx276_0
                  replace p276 := eq_true p276
                  replace q276 := eq_true q276
                  go_wp2_with (first | (at_builtin; refine print_append_str (w0 := w) w.heap.size rfl (.tmp 60) _ 42 9 5 rfl Tryd.underlying42 Tryd.underlying9 info5 u7 x7_1 (⟨#[10, 32, 9, 10]⟩ : ByteArray) rfl rfl ?aO ?aB ?aS ?aL ?_; (case aB => exact (W1 HB.out GE249.out)); (case aO => exact (Kd.own_of_R (Rq HO_7.out))); (case aS => exact (below_size (W1 HB.out GE249.out))); (case aL => have := LMc67.out; first | omega | (show _ + 4 ≤ _; omega)); intro v308 w85 ho0 hb hg; have ho := Kd.R_of_own (h1 := fun _ => rfl) (ok := fun _ => True) ho0 (fun _ _ => trivial); clear ho0; have hat := True.intro; rw [← Ny307.out] at ho; change Kd.R (Kd.int .u8) 5 w85 w.heap.size (fun _ => True) v308 y307 at ho; have n0_ := Aside0.mk (blk_grown (g := gb249) (Bq BK249.out) hg (Kd.R_ne HO_7.out BK249.out (by decide))); have n1_ := Aside0.mk (hb); have n2_ := Aside0.mk (ho); clear BK249; clear HB; clear HO_7; have BK249 := n0_; have HB := n1_; have HO309 := n2_; clear n0_ n1_ n2_; clear ho hb hg hat; have p70 : 0 ≤ (x9_1 : Int) := of_decide_eq_true (by first | (with_reducible assumption) | assumption); have q70 : x9_1 < (t259.size : Int) := of_decide_eq_true (by first | (with_reducible assumption) | assumption); have hx70 := bt_at t259 x9_1; replace p70 := eq_true p70; replace q70 := eq_true q70; have p83 : 0 ≤ (x9_1 : Int) := of_decide_eq_true (by first | (with_reducible assumption) | assumption); have q83 : x9_1 < (t259.size : Int) := of_decide_eq_true (by first | (with_reducible assumption) | assumption); have hx83 := bt_at t259 x9_1; replace p83 := eq_true p83; replace q83 := eq_true q83) | ((with_reducible refine gate_builtin (b := .append) (xs := #[.tmp 79, .tmp 83]) rfl ?_); (try (refine gate_guard (by rfl) ?_; dsimp only)); at_builtin; refine Kd.R_append (Kd.int .u8) (w0 := w) w.heap.size rfl (.tmp 79) (.tmp 83) 42 5 (.int .u8 0) 1 rfl Tryd.underlying42 info5 rfl (by decide) (by omega) v308 y307 (bt t259 x9_1) [.int .u8 (bt t259 x9_1)] (fun _ => True) (fun _ => False) rfl rfl ?aP (fun _ hk => hk.elim) ?aF ?aO ?aB ?aS ?aL ?_; (case aP => exact rfl); (case aB => exact (W1 HB.out GE249.out)); (case aF => exact (fun _ _ => trivial)); (case aO => exact (Rq HO309.out)); (case aS => exact (below_size (W1 HB.out GE249.out))); (case aL => have := LMc84.out; omega); intro v320 w86 ho hb hg hat; rw [← Ny319.out] at ho; have n0_ := Aside0.mk (blk_grown (g := gb249) (Bq BK249.out) hg (Kd.R_ne HO309.out BK249.out (by decide))); have n1_ := Aside0.mk (hb); have n2_ := Aside0.mk (ho); clear BK249; clear HB; clear HO309; have BK249 := n0_; have HB := n1_; have HO321 := n2_; clear n0_ n1_ n2_; clear ho hb hg hat))
                  go_roundg kj13
                  case measure => have := HK1.out; have := HJ13.out; omega
                  case rel => exact ⟨(y319), (wrap64 (x8_1 + 1)), (wrap64 (x9_1 + 1)), (by first | rfl | (simp; done) | (simp [*]; done)), (by first | rfl | (simp; done) | (simp [*]; done)), H', ⟨by have := HK1.out; have := HJ13.out; omega⟩, ⟨by (with_reducible repeat (first | apply Kd.R_alloc | apply Kd.R_drewN | apply Kd.R_drew)); exact HO321.out⟩, ⟨by (with_reducible repeat (first | refine blk_drewN ?_ _ | refine blk_drew ?_ | refine blk_alloc ?_ _)); exact BK249.out⟩, ⟨by repeat (first | (with_reducible first | exact HB.out | apply below_alloc | apply pw_below_drewN | apply below_drew1 | refine below_set ?_ GE249.out) | exact HB.out)⟩⟩
                 ·rw [if_neg c84] at H
                  exact absurd H (by simp)
               ·rw [if_neg c69] at H
                exact absurd H (by simp)
              ·rw [if_neg c68] at H
               exact absurd H (by simp)
             ·rw [if_neg c67] at H
              exact absurd H (by simp)
            ·rw [if_neg c66] at H
             have c66b0 : ((Int.tmod (wrap64 ((Int.tmod (rd l1 x8_1) 5) + 5)) 5) == 2) = false := beq_eq_false_iff_ne.mpr c66
             have c66b1 : ((Int.tmod (wrap64 ((Int.tmod (rd l1 x8_1) 5) + 5)) 5) != 2) = true := bne_iff_ne.mpr c66
             by_cases c87 : (Int.tmod (wrap64 ((Int.tmod (rd l1 x8_1) 5) + 5)) 5) = 3
             ·rw [if_pos c87] at H
              have c87b0 : ((Int.tmod (wrap64 ((Int.tmod (rd l1 x8_1) 5) + 5)) 5) == 3) = true := beq_iff_eq.mpr c87
              have c87b1 : ((Int.tmod (wrap64 ((Int.tmod (rd l1 x8_1) 5) + 5)) 5) != 3) = false := bne_eq_false_iff_eq.mpr c87
              clear c87
              by_cases c88 : x7_1.length + 3 < 140737488355328
              ·rw [if_pos c88] at H
               have LMc88 := Aside0.mk c88
               clear c88
               obtain ⟨y322, hy322⟩ : ∃ y_ : List Int, y_ = (x7_1 ++ bytesOf (⟨#[9, 35, 10]⟩ : ByteArray)) := ⟨_, rfl⟩
               replace H : (if 0 ≤ x9_1 then (if x9_1 < (t259.size : Int) then (if (bt t259 x9_1) = 10 then (if (Int.tmod (wrap64 (x8_1 + 1)) 2) = 1 then (if y322.length + 3 < 140737488355328 then ((some (y322 ++ bytesOf (⟨#[32, 9, 32]⟩ : ByteArray) : List Int)).bind fun y325 => (if y325.length < 140737488355328 then (depotlaw24_RequestIdle.l0 kj13 l1 t259 (y325 ++ [bt t259 x9_1]) (wrap64 (x8_1 + 1)) (wrap64 (x9_1 + 1)) l0_0 l0_1 l0_2) else (none))) else (none)) else (if y322.length < 140737488355328 then (depotlaw24_RequestIdle.l0 kj13 l1 t259 (y322 ++ [bt t259 x9_1]) (wrap64 (x8_1 + 1)) (wrap64 (x9_1 + 1)) l0_0 l0_1 l0_2) else (none))) else (if y322.length < 140737488355328 then (depotlaw24_RequestIdle.l0 kj13 l1 t259 (y322 ++ [bt t259 x9_1]) (wrap64 (x8_1 + 1)) (wrap64 (x9_1 + 1)) l0_0 l0_1 l0_2) else (none))) else (none)) else (none)) = some r := by first | (rw [hy322]; with_reducible exact H) | (have H2_ := (Option.bind_some _ _).symm.trans H; rw [hy322]; with_reducible exact H2_) | (have H2_ := (Option.bind_some _ _).symm.trans H; with_reducible exact H2_) | with_reducible exact H | (rw [hy322]; exact H) | exact H
               have Ny322 := Aside0.mk hy322
               clear hy322
               by_cases c89 : 0 ≤ x9_1
               ·rw [if_pos c89] at H
                have c89b0 : decide (0 ≤ x9_1) = true := decide_eq_true c89
                clear c89
                by_cases c90 : x9_1 < (t259.size : Int)
                ·rw [if_pos c90] at H
                 have c90b0 : decide (x9_1 < (t259.size : Int)) = true := decide_eq_true c90
                 clear c90
                 by_cases c92 : (bt t259 x9_1) = 10
                 ·rw [if_pos c92] at H
                  have c92b0 : ((bt t259 x9_1) == 10) = true := beq_iff_eq.mpr c92
                  have c92b1 : ((bt t259 x9_1) != 10) = false := bne_eq_false_iff_eq.mpr c92
                  clear c92
                  by_cases c93 : (Int.tmod (wrap64 (x8_1 + 1)) 2) = 1
                  ·rw [if_pos c93] at H
                   have c93b0 : ((Int.tmod (wrap64 (x8_1 + 1)) 2) == 1) = true := beq_iff_eq.mpr c93
                   have c93b1 : ((Int.tmod (wrap64 (x8_1 + 1)) 2) != 1) = false := bne_eq_false_iff_eq.mpr c93
                   clear c93
                   by_cases c94 : y322.length + 3 < 140737488355328
                   ·rw [if_pos c94] at H
                    have LMc94 := Aside0.mk c94
                    clear c94
                    obtain ⟨y325, hy325⟩ : ∃ y_ : List Int, y_ = (y322 ++ bytesOf (⟨#[32, 9, 32]⟩ : ByteArray)) := ⟨_, rfl⟩
                    replace H : (if y325.length < 140737488355328 then (depotlaw24_RequestIdle.l0 kj13 l1 t259 (y325 ++ [bt t259 x9_1]) (wrap64 (x8_1 + 1)) (wrap64 (x9_1 + 1)) l0_0 l0_1 l0_2) else (none)) = some r := by first | (rw [hy325]; with_reducible exact H) | (have H2_ := (Option.bind_some _ _).symm.trans H; rw [hy325]; with_reducible exact H2_) | (have H2_ := (Option.bind_some _ _).symm.trans H; with_reducible exact H2_) | with_reducible exact H | (rw [hy325]; exact H) | exact H
                    have Ny325 := Aside0.mk hy325
                    clear hy325
                    by_cases c96 : y325.length < 140737488355328
                    ·rw [if_pos c96] at H
                     have LMc96 := Aside0.mk c96
                     clear c96
                     obtain ⟨y328, hy328⟩ : ∃ y_ : List Int, y_ = (y325 ++ [bt t259 x9_1]) := ⟨_, rfl⟩
                     replace H : (depotlaw24_RequestIdle.l0 kj13 l1 t259 y328 (wrap64 (x8_1 + 1)) (wrap64 (x9_1 + 1)) l0_0 l0_1 l0_2) = some r := by first | (rw [hy328]; with_reducible exact H) | (have H2_ := (Option.bind_some _ _).symm.trans H; rw [hy328]; with_reducible exact H2_) | (have H2_ := (Option.bind_some _ _).symm.trans H; with_reducible exact H2_) | with_reducible exact H | (rw [hy328]; exact H) | exact H
                     have Ny328 := Aside0.mk hy328
                     clear hy328
                     have H' := Aside0.mk H
                     clear H
                     have p276 : 0 ≤ (x8_1 : Int) := of_decide_eq_true (by first | (with_reducible assumption) | assumption)
                     have q276 : x8_1 < (l1.length : Int) := of_decide_eq_true (by first | (with_reducible assumption) | assumption)
                     obtain ⟨ad276, e276, hx276_0⟩ := Kd.at_int HR1.out x8_1 p276 q276
                     cases e276
                     replace hx276_0 := (HB.out.cell (World.block_lt_of_cell? w _ hx276_0)).trans hx276_0
                     replace p276 := eq_true p276
                     replace q276 := eq_true q276
                     go_wp2_with (first | (at_builtin; refine print_append_str (w0 := w) w.heap.size rfl (.tmp 64) _ 42 9 5 rfl Tryd.underlying42 Tryd.underlying9 info5 u7 x7_1 (⟨#[9, 35, 10]⟩ : ByteArray) rfl rfl ?aO ?aB ?aS ?aL ?_; (case aB => exact (W1 HB.out GE249.out)); (case aO => exact (Kd.own_of_R (Rq HO_7.out))); (case aS => exact (below_size (W1 HB.out GE249.out))); (case aL => have := LMc88.out; first | omega | (show _ + 3 ≤ _; omega)); intro v323 w97 ho0 hb hg; have ho := Kd.R_of_own (h1 := fun _ => rfl) (ok := fun _ => True) ho0 (fun _ _ => trivial); clear ho0; have hat := True.intro; rw [← Ny322.out] at ho; change Kd.R (Kd.int .u8) 5 w97 w.heap.size (fun _ => True) v323 y322 at ho; have n0_ := Aside0.mk (blk_grown (g := gb249) (Bq BK249.out) hg (Kd.R_ne HO_7.out BK249.out (by decide))); have n1_ := Aside0.mk (hb); have n2_ := Aside0.mk (ho); clear BK249; clear HB; clear HO_7; have BK249 := n0_; have HB := n1_; have HO324 := n2_; clear n0_ n1_ n2_; clear ho hb hg hat; have p91 : 0 ≤ (x9_1 : Int) := of_decide_eq_true (by first | (with_reducible assumption) | assumption); have q91 : x9_1 < (t259.size : Int) := of_decide_eq_true (by first | (with_reducible assumption) | assumption); have hx91 := bt_at t259 x9_1; replace p91 := eq_true p91; replace q91 := eq_true q91) | (at_builtin; refine print_append_str (w0 := w) w.heap.size rfl (.tmp 77) _ 42 9 5 rfl Tryd.underlying42 Tryd.underlying9 info5 v323 y322 (⟨#[32, 9, 32]⟩ : ByteArray) rfl rfl ?aO ?aB ?aS ?aL ?_; (case aB => exact (W1 HB.out GE249.out)); (case aO => exact (Kd.own_of_R (Rq HO324.out))); (case aS => exact (below_size (W1 HB.out GE249.out))); (case aL => have := LMc94.out; first | omega | (show _ + 3 ≤ _; omega)); intro v326 w98 ho0 hb hg; have ho := Kd.R_of_own (h1 := fun _ => rfl) (ok := fun _ => True) ho0 (fun _ _ => trivial); clear ho0; have hat := True.intro; rw [← Ny325.out] at ho; change Kd.R (Kd.int .u8) 5 w98 w.heap.size (fun _ => True) v326 y325 at ho; have n0_ := Aside0.mk (blk_grown (g := gb249) (Bq BK249.out) hg (Kd.R_ne HO324.out BK249.out (by decide))); have n1_ := Aside0.mk (hb); have n2_ := Aside0.mk (ho); clear BK249; clear HB; clear HO324; have BK249 := n0_; have HB := n1_; have HO327 := n2_; clear n0_ n1_ n2_; clear ho hb hg hat; have p95 : 0 ≤ (x9_1 : Int) := of_decide_eq_true (by first | (with_reducible assumption) | assumption); have q95 : x9_1 < (t259.size : Int) := of_decide_eq_true (by first | (with_reducible assumption) | assumption); have hx95 := bt_at t259 x9_1; replace p95 := eq_true p95; replace q95 := eq_true q95) | ((with_reducible refine gate_builtin (b := .append) (xs := #[.tmp 79, .tmp 83]) rfl ?_); (try (refine gate_guard (by rfl) ?_; dsimp only)); at_builtin; refine Kd.R_append (Kd.int .u8) (w0 := w) w.heap.size rfl (.tmp 79) (.tmp 83) 42 5 (.int .u8 0) 1 rfl Tryd.underlying42 info5 rfl (by decide) (by omega) v326 y325 (bt t259 x9_1) [.int .u8 (bt t259 x9_1)] (fun _ => True) (fun _ => False) rfl rfl ?aP (fun _ hk => hk.elim) ?aF ?aO ?aB ?aS ?aL ?_; (case aP => exact rfl); (case aB => exact (W1 HB.out GE249.out)); (case aF => exact (fun _ _ => trivial)); (case aO => exact (Rq HO327.out)); (case aS => exact (below_size (W1 HB.out GE249.out))); (case aL => have := LMc96.out; omega); intro v329 w99 ho hb hg hat; rw [← Ny328.out] at ho; have n0_ := Aside0.mk (blk_grown (g := gb249) (Bq BK249.out) hg (Kd.R_ne HO327.out BK249.out (by decide))); have n1_ := Aside0.mk (hb); have n2_ := Aside0.mk (ho); clear BK249; clear HB; clear HO327; have BK249 := n0_; have HB := n1_; have HO330 := n2_; clear n0_ n1_ n2_; clear ho hb hg hat))
                     go_roundg kj13
                     case measure => have := HK1.out; have := HJ13.out; omega
                     case rel => exact ⟨(y328), (wrap64 (x8_1 + 1)), (wrap64 (x9_1 + 1)), (by first | rfl | (simp; done) | (simp [*]; done)), (by first | rfl | (simp; done) | (simp [*]; done)), H', ⟨by have := HK1.out; have := HJ13.out; omega⟩, ⟨by (with_reducible repeat (first | apply Kd.R_alloc | apply Kd.R_drewN | apply Kd.R_drew)); exact HO330.out⟩, ⟨by (with_reducible repeat (first | refine blk_drewN ?_ _ | refine blk_drew ?_ | refine blk_alloc ?_ _)); exact BK249.out⟩, ⟨by repeat (first | (with_reducible first | exact HB.out | apply below_alloc | apply pw_below_drewN | apply below_drew1 | refine below_set ?_ GE249.out) | exact HB.out)⟩⟩
                    ·rw [if_neg c96] at H
                     exact absurd H (by simp)
                   ·rw [if_neg c94] at H
                    exact absurd H (by simp)
                  ·rw [if_neg c93] at H
                   have c93b0 : ((Int.tmod (wrap64 (x8_1 + 1)) 2) == 1) = false := beq_eq_false_iff_ne.mpr c93
                   have c93b1 : ((Int.tmod (wrap64 (x8_1 + 1)) 2) != 1) = true := bne_iff_ne.mpr c93
                   by_cases c101 : y322.length < 140737488355328
                   ·rw [if_pos c101] at H
                    have LMc101 := Aside0.mk c101
                    clear c101
                    obtain ⟨y331, hy331⟩ : ∃ y_ : List Int, y_ = (y322 ++ [bt t259 x9_1]) := ⟨_, rfl⟩
                    replace H : (depotlaw24_RequestIdle.l0 kj13 l1 t259 y331 (wrap64 (x8_1 + 1)) (wrap64 (x9_1 + 1)) l0_0 l0_1 l0_2) = some r := by first | (rw [hy331]; with_reducible exact H) | (have H2_ := (Option.bind_some _ _).symm.trans H; rw [hy331]; with_reducible exact H2_) | (have H2_ := (Option.bind_some _ _).symm.trans H; with_reducible exact H2_) | with_reducible exact H | (rw [hy331]; exact H) | exact H
                    have Ny331 := Aside0.mk hy331
                    clear hy331
                    have H' := Aside0.mk H
                    clear H
                    have p276 : 0 ≤ (x8_1 : Int) := of_decide_eq_true (by first | (with_reducible assumption) | assumption)
                    have q276 : x8_1 < (l1.length : Int) := of_decide_eq_true (by first | (with_reducible assumption) | assumption)
                    obtain ⟨ad276, e276, hx276_0⟩ := Kd.at_int HR1.out x8_1 p276 q276
                    cases e276
                    replace hx276_0 := (HB.out.cell (World.block_lt_of_cell? w _ hx276_0)).trans hx276_0
                    replace p276 := eq_true p276
                    replace q276 := eq_true q276
                    go_wp2_with (first | (at_builtin; refine print_append_str (w0 := w) w.heap.size rfl (.tmp 64) _ 42 9 5 rfl Tryd.underlying42 Tryd.underlying9 info5 u7 x7_1 (⟨#[9, 35, 10]⟩ : ByteArray) rfl rfl ?aO ?aB ?aS ?aL ?_; (case aB => exact (W1 HB.out GE249.out)); (case aO => exact (Kd.own_of_R (Rq HO_7.out))); (case aS => exact (below_size (W1 HB.out GE249.out))); (case aL => have := LMc88.out; first | omega | (show _ + 3 ≤ _; omega)); intro v323 w102 ho0 hb hg; have ho := Kd.R_of_own (h1 := fun _ => rfl) (ok := fun _ => True) ho0 (fun _ _ => trivial); clear ho0; have hat := True.intro; rw [← Ny322.out] at ho; change Kd.R (Kd.int .u8) 5 w102 w.heap.size (fun _ => True) v323 y322 at ho; have n0_ := Aside0.mk (blk_grown (g := gb249) (Bq BK249.out) hg (Kd.R_ne HO_7.out BK249.out (by decide))); have n1_ := Aside0.mk (hb); have n2_ := Aside0.mk (ho); clear BK249; clear HB; clear HO_7; have BK249 := n0_; have HB := n1_; have HO324 := n2_; clear n0_ n1_ n2_; clear ho hb hg hat; have p91 : 0 ≤ (x9_1 : Int) := of_decide_eq_true (by first | (with_reducible assumption) | assumption); have q91 : x9_1 < (t259.size : Int) := of_decide_eq_true (by first | (with_reducible assumption) | assumption); have hx91 := bt_at t259 x9_1; replace p91 := eq_true p91; replace q91 := eq_true q91; have p100 : 0 ≤ (x9_1 : Int) := of_decide_eq_true (by first | (with_reducible assumption) | assumption); have q100 : x9_1 < (t259.size : Int) := of_decide_eq_true (by first | (with_reducible assumption) | assumption); have hx100 := bt_at t259 x9_1; replace p100 := eq_true p100; replace q100 := eq_true q100) | ((with_reducible refine gate_builtin (b := .append) (xs := #[.tmp 79, .tmp 83]) rfl ?_); (try (refine gate_guard (by rfl) ?_; dsimp only)); at_builtin; refine Kd.R_append (Kd.int .u8) (w0 := w) w.heap.size rfl (.tmp 79) (.tmp 83) 42 5 (.int .u8 0) 1 rfl Tryd.underlying42 info5 rfl (by decide) (by omega) v323 y322 (bt t259 x9_1) [.int .u8 (bt t259 x9_1)] (fun _ => True) (fun _ => False) rfl rfl ?aP (fun _ hk => hk.elim) ?aF ?aO ?aB ?aS ?aL ?_; (case aP => exact rfl); (case aB => exact (W1 HB.out GE249.out)); (case aF => exact (fun _ _ => trivial)); (case aO => exact (Rq HO324.out)); (case aS => exact (below_size (W1 HB.out GE249.out))); (case aL => have := LMc101.out; omega); intro v332 w103 ho hb hg hat; rw [← Ny331.out] at ho; have n0_ := Aside0.mk (blk_grown (g := gb249) (Bq BK249.out) hg (Kd.R_ne HO324.out BK249.out (by decide))); have n1_ := Aside0.mk (hb); have n2_ := Aside0.mk (ho); clear BK249; clear HB; clear HO324; have BK249 := n0_; have HB := n1_; have HO333 := n2_; clear n0_ n1_ n2_; clear ho hb hg hat))
                    go_roundg kj13
                    case measure => have := HK1.out; have := HJ13.out; omega
                    case rel => exact ⟨(y331), (wrap64 (x8_1 + 1)), (wrap64 (x9_1 + 1)), (by first | rfl | (simp; done) | (simp [*]; done)), (by first | rfl | (simp; done) | (simp [*]; done)), H', ⟨by have := HK1.out; have := HJ13.out; omega⟩, ⟨by (with_reducible repeat (first | apply Kd.R_alloc | apply Kd.R_drewN | apply Kd.R_drew)); exact HO333.out⟩, ⟨by (with_reducible repeat (first | refine blk_drewN ?_ _ | refine blk_drew ?_ | refine blk_alloc ?_ _)); exact BK249.out⟩, ⟨by repeat (first | (with_reducible first | exact HB.out | apply below_alloc | apply pw_below_drewN | apply below_drew1 | refine below_set ?_ GE249.out) | exact HB.out)⟩⟩
                   ·rw [if_neg c101] at H
                    exact absurd H (by simp)
                 ·rw [if_neg c92] at H
                  have c92b0 : ((bt t259 x9_1) == 10) = false := beq_eq_false_iff_ne.mpr c92
                  have c92b1 : ((bt t259 x9_1) != 10) = true := bne_iff_ne.mpr c92
                  by_cases c105 : y322.length < 140737488355328
                  ·rw [if_pos c105] at H
                   have LMc105 := Aside0.mk c105
                   clear c105
                   obtain ⟨y334, hy334⟩ : ∃ y_ : List Int, y_ = (y322 ++ [bt t259 x9_1]) := ⟨_, rfl⟩
                   replace H : (depotlaw24_RequestIdle.l0 kj13 l1 t259 y334 (wrap64 (x8_1 + 1)) (wrap64 (x9_1 + 1)) l0_0 l0_1 l0_2) = some r := by first | (rw [hy334]; with_reducible exact H) | (have H2_ := (Option.bind_some _ _).symm.trans H; rw [hy334]; with_reducible exact H2_) | (have H2_ := (Option.bind_some _ _).symm.trans H; with_reducible exact H2_) | with_reducible exact H | (rw [hy334]; exact H) | exact H
                   have Ny334 := Aside0.mk hy334
                   clear hy334
                   have H' := Aside0.mk H
                   clear H
                   have p276 : 0 ≤ (x8_1 : Int) := of_decide_eq_true (by first | (with_reducible assumption) | assumption)
                   have q276 : x8_1 < (l1.length : Int) := of_decide_eq_true (by first | (with_reducible assumption) | assumption)
                   obtain ⟨ad276, e276, hx276_0⟩ := Kd.at_int HR1.out x8_1 p276 q276
                   cases e276
                   replace hx276_0 := (HB.out.cell (World.block_lt_of_cell? w _ hx276_0)).trans hx276_0
                   replace p276 := eq_true p276
                   replace q276 := eq_true q276
                   go_wp2_with (first | (at_builtin; refine print_append_str (w0 := w) w.heap.size rfl (.tmp 64) _ 42 9 5 rfl Tryd.underlying42 Tryd.underlying9 info5 u7 x7_1 (⟨#[9, 35, 10]⟩ : ByteArray) rfl rfl ?aO ?aB ?aS ?aL ?_; (case aB => exact (W1 HB.out GE249.out)); (case aO => exact (Kd.own_of_R (Rq HO_7.out))); (case aS => exact (below_size (W1 HB.out GE249.out))); (case aL => have := LMc88.out; first | omega | (show _ + 3 ≤ _; omega)); intro v323 w106 ho0 hb hg; have ho := Kd.R_of_own (h1 := fun _ => rfl) (ok := fun _ => True) ho0 (fun _ _ => trivial); clear ho0; have hat := True.intro; rw [← Ny322.out] at ho; change Kd.R (Kd.int .u8) 5 w106 w.heap.size (fun _ => True) v323 y322 at ho; have n0_ := Aside0.mk (blk_grown (g := gb249) (Bq BK249.out) hg (Kd.R_ne HO_7.out BK249.out (by decide))); have n1_ := Aside0.mk (hb); have n2_ := Aside0.mk (ho); clear BK249; clear HB; clear HO_7; have BK249 := n0_; have HB := n1_; have HO324 := n2_; clear n0_ n1_ n2_; clear ho hb hg hat; have p91 : 0 ≤ (x9_1 : Int) := of_decide_eq_true (by first | (with_reducible assumption) | assumption); have q91 : x9_1 < (t259.size : Int) := of_decide_eq_true (by first | (with_reducible assumption) | assumption); have hx91 := bt_at t259 x9_1; replace p91 := eq_true p91; replace q91 := eq_true q91; have p104 : 0 ≤ (x9_1 : Int) := of_decide_eq_true (by first | (with_reducible assumption) | assumption); have q104 : x9_1 < (t259.size : Int) := of_decide_eq_true (by first | (with_reducible assumption) | assumption); have hx104 := bt_at t259 x9_1; replace p104 := eq_true p104; replace q104 := eq_true q104) | ((with_reducible refine gate_builtin (b := .append) (xs := #[.tmp 79, .tmp 83]) rfl ?_); (try (refine gate_guard (by rfl) ?_; dsimp only)); at_builtin; refine Kd.R_append (Kd.int .u8) (w0 := w) w.heap.size rfl (.tmp 79) (.tmp 83) 42 5 (.int .u8 0) 1 rfl Tryd.underlying42 info5 rfl (by decide) (by omega) v323 y322 (bt t259 x9_1) [.int .u8 (bt t259 x9_1)] (fun _ => True) (fun _ => False) rfl rfl ?aP (fun _ hk => hk.elim) ?aF ?aO ?aB ?aS ?aL ?_; (case aP => exact rfl); (case aB => exact (W1 HB.out GE249.out)); (case aF => exact (fun _ _ => trivial)); (case aO => exact (Rq HO324.out)); (case aS => exact (below_size (W1 HB.out GE249.out))); (case aL => have := LMc105.out; omega); intro v335 w107 ho hb hg hat; rw [← Ny334.out] at ho; have n0_ := Aside0.mk (blk_grown (g := gb249) (Bq BK249.out) hg (Kd.R_ne HO324.out BK249.out (by decide))); have n1_ := Aside0.mk (hb); have n2_ := Aside0.mk (ho); clear BK249; clear HB; clear HO324; have BK249 := n0_; have HB := n1_; have HO336 := n2_; clear n0_ n1_ n2_; clear ho hb hg hat))
                   go_roundg kj13
                   case measure => have := HK1.out; have := HJ13.out; omega
                   case rel => exact ⟨(y334), (wrap64 (x8_1 + 1)), (wrap64 (x9_1 + 1)), (by first | rfl | (simp; done) | (simp [*]; done)), (by first | rfl | (simp; done) | (simp [*]; done)), H', ⟨by have := HK1.out; have := HJ13.out; omega⟩, ⟨by (with_reducible repeat (first | apply Kd.R_alloc | apply Kd.R_drewN | apply Kd.R_drew)); exact HO336.out⟩, ⟨by (with_reducible repeat (first | refine blk_drewN ?_ _ | refine blk_drew ?_ | refine blk_alloc ?_ _)); exact BK249.out⟩, ⟨by repeat (first | (with_reducible first | exact HB.out | apply below_alloc | apply pw_below_drewN | apply below_drew1 | refine below_set ?_ GE249.out) | exact HB.out)⟩⟩
                  ·rw [if_neg c105] at H
                   exact absurd H (by simp)
                ·rw [if_neg c90] at H
                 exact absurd H (by simp)
               ·rw [if_neg c89] at H
                exact absurd H (by simp)
              ·rw [if_neg c88] at H
               exact absurd H (by simp)
             ·rw [if_neg c87] at H
              have c87b0 : ((Int.tmod (wrap64 ((Int.tmod (rd l1 x8_1) 5) + 5)) 5) == 3) = false := beq_eq_false_iff_ne.mpr c87
              have c87b1 : ((Int.tmod (wrap64 ((Int.tmod (rd l1 x8_1) 5) + 5)) 5) != 3) = true := bne_iff_ne.mpr c87
              by_cases c108 : 0 ≤ x9_1
              ·rw [if_pos c108] at H
               have c108b0 : decide (0 ≤ x9_1) = true := decide_eq_true c108
               clear c108
               by_cases c109 : x9_1 < (t259.size : Int)
               ·rw [if_pos c109] at H
                have c109b0 : decide (x9_1 < (t259.size : Int)) = true := decide_eq_true c109
                clear c109
                by_cases c111 : (bt t259 x9_1) = 10
                ·rw [if_pos c111] at H
                 have c111b0 : ((bt t259 x9_1) == 10) = true := beq_iff_eq.mpr c111
                 have c111b1 : ((bt t259 x9_1) != 10) = false := bne_eq_false_iff_eq.mpr c111
                 clear c111
                 by_cases c112 : (Int.tmod (wrap64 (x8_1 + 1)) 2) = 1
                 ·rw [if_pos c112] at H
                  have c112b0 : ((Int.tmod (wrap64 (x8_1 + 1)) 2) == 1) = true := beq_iff_eq.mpr c112
                  have c112b1 : ((Int.tmod (wrap64 (x8_1 + 1)) 2) != 1) = false := bne_eq_false_iff_eq.mpr c112
                  clear c112
                  by_cases c113 : x7_1.length + 3 < 140737488355328
                  ·rw [if_pos c113] at H
                   have LMc113 := Aside0.mk c113
                   clear c113
                   obtain ⟨y337, hy337⟩ : ∃ y_ : List Int, y_ = (x7_1 ++ bytesOf (⟨#[32, 9, 32]⟩ : ByteArray)) := ⟨_, rfl⟩
                   replace H : (if y337.length < 140737488355328 then (depotlaw24_RequestIdle.l0 kj13 l1 t259 (y337 ++ [bt t259 x9_1]) (wrap64 (x8_1 + 1)) (wrap64 (x9_1 + 1)) l0_0 l0_1 l0_2) else (none)) = some r := by first | (rw [hy337]; with_reducible exact H) | (have H2_ := (Option.bind_some _ _).symm.trans H; rw [hy337]; with_reducible exact H2_) | (have H2_ := (Option.bind_some _ _).symm.trans H; with_reducible exact H2_) | with_reducible exact H | (rw [hy337]; exact H) | exact H
                   have Ny337 := Aside0.mk hy337
                   clear hy337
                   by_cases c115 : y337.length < 140737488355328
                   ·rw [if_pos c115] at H
                    have LMc115 := Aside0.mk c115
                    clear c115
                    obtain ⟨y340, hy340⟩ : ∃ y_ : List Int, y_ = (y337 ++ [bt t259 x9_1]) := ⟨_, rfl⟩
                    replace H : (depotlaw24_RequestIdle.l0 kj13 l1 t259 y340 (wrap64 (x8_1 + 1)) (wrap64 (x9_1 + 1)) l0_0 l0_1 l0_2) = some r := by first | (rw [hy340]; with_reducible exact H) | (have H2_ := (Option.bind_some _ _).symm.trans H; rw [hy340]; with_reducible exact H2_) | (have H2_ := (Option.bind_some _ _).symm.trans H; with_reducible exact H2_) | with_reducible exact H | (rw [hy340]; exact H) | exact H
                    have Ny340 := Aside0.mk hy340
                    clear hy340
                    have H' := Aside0.mk H
                    clear H
                    have p276 : 0 ≤ (x8_1 : Int) := of_decide_eq_true (by first | (with_reducible assumption) | assumption)
                    have q276 : x8_1 < (l1.length : Int) := of_decide_eq_true (by first | (with_reducible assumption) | assumption)
                    obtain ⟨ad276, e276, hx276_0⟩ := Kd.at_int HR1.out x8_1 p276 q276
                    cases e276
                    replace hx276_0 := (HB.out.cell (World.block_lt_of_cell? w _ hx276_0)).trans hx276_0
                    replace p276 := eq_true p276
                    replace q276 := eq_true q276
                    have p110 : 0 ≤ (x9_1 : Int) := of_decide_eq_true (by first | (with_reducible assumption) | assumption)
                    have q110 : x9_1 < (t259.size : Int) := of_decide_eq_true (by first | (with_reducible assumption) | assumption)
                    have hx110 := bt_at t259 x9_1
                    replace p110 := eq_true p110
                    replace q110 := eq_true q110
                    go_wp2_with (first | (at_builtin; refine print_append_str (w0 := w) w.heap.size rfl (.tmp 77) _ 42 9 5 rfl Tryd.underlying42 Tryd.underlying9 info5 u7 x7_1 (⟨#[32, 9, 32]⟩ : ByteArray) rfl rfl ?aO ?aB ?aS ?aL ?_; (case aB => exact (W1 HB.out GE249.out)); (case aO => exact (Kd.own_of_R (Rq HO_7.out))); (case aS => exact (below_size (W1 HB.out GE249.out))); (case aL => have := LMc113.out; first | omega | (show _ + 3 ≤ _; omega)); intro v338 w116 ho0 hb hg; have ho := Kd.R_of_own (h1 := fun _ => rfl) (ok := fun _ => True) ho0 (fun _ _ => trivial); clear ho0; have hat := True.intro; rw [← Ny337.out] at ho; change Kd.R (Kd.int .u8) 5 w116 w.heap.size (fun _ => True) v338 y337 at ho; have n0_ := Aside0.mk (blk_grown (g := gb249) (Bq BK249.out) hg (Kd.R_ne HO_7.out BK249.out (by decide))); have n1_ := Aside0.mk (hb); have n2_ := Aside0.mk (ho); clear BK249; clear HB; clear HO_7; have BK249 := n0_; have HB := n1_; have HO339 := n2_; clear n0_ n1_ n2_; clear ho hb hg hat; have p114 : 0 ≤ (x9_1 : Int) := of_decide_eq_true (by first | (with_reducible assumption) | assumption); have q114 : x9_1 < (t259.size : Int) := of_decide_eq_true (by first | (with_reducible assumption) | assumption); have hx114 := bt_at t259 x9_1; replace p114 := eq_true p114; replace q114 := eq_true q114) | ((with_reducible refine gate_builtin (b := .append) (xs := #[.tmp 79, .tmp 83]) rfl ?_); (try (refine gate_guard (by rfl) ?_; dsimp only)); at_builtin; refine Kd.R_append (Kd.int .u8) (w0 := w) w.heap.size rfl (.tmp 79) (.tmp 83) 42 5 (.int .u8 0) 1 rfl Tryd.underlying42 info5 rfl (by decide) (by omega) v338 y337 (bt t259 x9_1) [.int .u8 (bt t259 x9_1)] (fun _ => True) (fun _ => False) rfl rfl ?aP (fun _ hk => hk.elim) ?aF ?aO ?aB ?aS ?aL ?_; (case aP => exact rfl); (case aB => exact (W1 HB.out GE249.out)); (case aF => exact (fun _ _ => trivial)); (case aO => exact (Rq HO339.out)); (case aS => exact (below_size (W1 HB.out GE249.out))); (case aL => have := LMc115.out; omega); intro v341 w117 ho hb hg hat; rw [← Ny340.out] at ho; have n0_ := Aside0.mk (blk_grown (g := gb249) (Bq BK249.out) hg (Kd.R_ne HO339.out BK249.out (by decide))); have n1_ := Aside0.mk (hb); have n2_ := Aside0.mk (ho); clear BK249; clear HB; clear HO339; have BK249 := n0_; have HB := n1_; have HO342 := n2_; clear n0_ n1_ n2_; clear ho hb hg hat))
                    go_roundg kj13
                    case measure => have := HK1.out; have := HJ13.out; omega
                    case rel => exact ⟨(y340), (wrap64 (x8_1 + 1)), (wrap64 (x9_1 + 1)), (by first | rfl | (simp; done) | (simp [*]; done)), (by first | rfl | (simp; done) | (simp [*]; done)), H', ⟨by have := HK1.out; have := HJ13.out; omega⟩, ⟨by (with_reducible repeat (first | apply Kd.R_alloc | apply Kd.R_drewN | apply Kd.R_drew)); exact HO342.out⟩, ⟨by (with_reducible repeat (first | refine blk_drewN ?_ _ | refine blk_drew ?_ | refine blk_alloc ?_ _)); exact BK249.out⟩, ⟨by repeat (first | (with_reducible first | exact HB.out | apply below_alloc | apply pw_below_drewN | apply below_drew1 | refine below_set ?_ GE249.out) | exact HB.out)⟩⟩
                   ·rw [if_neg c115] at H
                    exact absurd H (by simp)
                  ·rw [if_neg c113] at H
                   exact absurd H (by simp)
                 ·rw [if_neg c112] at H
                  have c112b0 : ((Int.tmod (wrap64 (x8_1 + 1)) 2) == 1) = false := beq_eq_false_iff_ne.mpr c112
                  have c112b1 : ((Int.tmod (wrap64 (x8_1 + 1)) 2) != 1) = true := bne_iff_ne.mpr c112
                  by_cases c119 : x7_1.length < 140737488355328
                  ·rw [if_pos c119] at H
                   have LMc119 := Aside0.mk c119
                   clear c119
                   obtain ⟨y343, hy343⟩ : ∃ y_ : List Int, y_ = (x7_1 ++ [bt t259 x9_1]) := ⟨_, rfl⟩
                   replace H : (depotlaw24_RequestIdle.l0 kj13 l1 t259 y343 (wrap64 (x8_1 + 1)) (wrap64 (x9_1 + 1)) l0_0 l0_1 l0_2) = some r := by first | (rw [hy343]; with_reducible exact H) | (have H2_ := (Option.bind_some _ _).symm.trans H; rw [hy343]; with_reducible exact H2_) | (have H2_ := (Option.bind_some _ _).symm.trans H; with_reducible exact H2_) | with_reducible exact H | (rw [hy343]; exact H) | exact H
                   have Ny343 := Aside0.mk hy343
                   clear hy343
                   have H' := Aside0.mk H
                   clear H
                   have p276 : 0 ≤ (x8_1 : Int) := of_decide_eq_true (by first | (with_reducible assumption) | assumption)
                   have q276 : x8_1 < (l1.length : Int) := of_decide_eq_true (by first | (with_reducible assumption) | assumption)
                   obtain ⟨ad276, e276, hx276_0⟩ := Kd.at_int HR1.out x8_1 p276 q276
                   cases e276
                   replace hx276_0 := (HB.out.cell (World.block_lt_of_cell? w _ hx276_0)).trans hx276_0
                   replace p276 := eq_true p276
                   replace q276 := eq_true q276
                   have p110 : 0 ≤ (x9_1 : Int) := of_decide_eq_true (by first | (with_reducible assumption) | assumption)
                   have q110 : x9_1 < (t259.size : Int) := of_decide_eq_true (by first | (with_reducible assumption) | assumption)
                   have hx110 := bt_at t259 x9_1
                   replace p110 := eq_true p110
                   replace q110 := eq_true q110
                   have p118 : 0 ≤ (x9_1 : Int) := of_decide_eq_true (by first | (with_reducible assumption) | assumption)
                   have q118 : x9_1 < (t259.size : Int) := of_decide_eq_true (by first | (with_reducible assumption) | assumption)
                   have hx118 := bt_at t259 x9_1
                   replace p118 := eq_true p118
                   replace q118 := eq_true q118
                   go_wp2_with (first | ((with_reducible refine gate_builtin (b := .append) (xs := #[.tmp 79, .tmp 83]) rfl ?_); (try (refine gate_guard (by rfl) ?_; dsimp only)); at_builtin; refine Kd.R_append (Kd.int .u8) (w0 := w) w.heap.size rfl (.tmp 79) (.tmp 83) 42 5 (.int .u8 0) 1 rfl Tryd.underlying42 info5 rfl (by decide) (by omega) u7 x7_1 (bt t259 x9_1) [.int .u8 (bt t259 x9_1)] (fun _ => True) (fun _ => False) rfl rfl ?aP (fun _ hk => hk.elim) ?aF ?aO ?aB ?aS ?aL ?_; (case aP => exact rfl); (case aB => exact (W1 HB.out GE249.out)); (case aF => exact (fun _ _ => trivial)); (case aO => exact (Rq HO_7.out)); (case aS => exact (below_size (W1 HB.out GE249.out))); (case aL => have := LMc119.out; omega); intro v344 w120 ho hb hg hat; rw [← Ny343.out] at ho; have n0_ := Aside0.mk (blk_grown (g := gb249) (Bq BK249.out) hg (Kd.R_ne HO_7.out BK249.out (by decide))); have n1_ := Aside0.mk (hb); have n2_ := Aside0.mk (ho); clear BK249; clear HB; clear HO_7; have BK249 := n0_; have HB := n1_; have HO345 := n2_; clear n0_ n1_ n2_; clear ho hb hg hat))
                   go_roundg kj13
                   case measure => have := HK1.out; have := HJ13.out; omega
                   case rel => exact ⟨(y343), (wrap64 (x8_1 + 1)), (wrap64 (x9_1 + 1)), (by first | rfl | (simp; done) | (simp [*]; done)), (by first | rfl | (simp; done) | (simp [*]; done)), H', ⟨by have := HK1.out; have := HJ13.out; omega⟩, ⟨by (with_reducible repeat (first | apply Kd.R_alloc | apply Kd.R_drewN | apply Kd.R_drew)); exact HO345.out⟩, ⟨by (with_reducible repeat (first | refine blk_drewN ?_ _ | refine blk_drew ?_ | refine blk_alloc ?_ _)); exact BK249.out⟩, ⟨by repeat (first | (with_reducible first | exact HB.out | apply below_alloc | apply pw_below_drewN | apply below_drew1 | refine below_set ?_ GE249.out) | exact HB.out)⟩⟩
                  ·rw [if_neg c119] at H
                   exact absurd H (by simp)
                ·rw [if_neg c111] at H
                 have c111b0 : ((bt t259 x9_1) == 10) = false := beq_eq_false_iff_ne.mpr c111
                 have c111b1 : ((bt t259 x9_1) != 10) = true := bne_iff_ne.mpr c111
                 by_cases c122 : x7_1.length < 140737488355328
                 ·rw [if_pos c122] at H
                  have LMc122 := Aside0.mk c122
                  clear c122
                  obtain ⟨y346, hy346⟩ : ∃ y_ : List Int, y_ = (x7_1 ++ [bt t259 x9_1]) := ⟨_, rfl⟩
                  replace H : (depotlaw24_RequestIdle.l0 kj13 l1 t259 y346 (wrap64 (x8_1 + 1)) (wrap64 (x9_1 + 1)) l0_0 l0_1 l0_2) = some r := by first | (rw [hy346]; with_reducible exact H) | (have H2_ := (Option.bind_some _ _).symm.trans H; rw [hy346]; with_reducible exact H2_) | (have H2_ := (Option.bind_some _ _).symm.trans H; with_reducible exact H2_) | with_reducible exact H | (rw [hy346]; exact H) | exact H
                  have Ny346 := Aside0.mk hy346
                  clear hy346
                  have H' := Aside0.mk H
                  clear H
                  have p276 : 0 ≤ (x8_1 : Int) := of_decide_eq_true (by first | (with_reducible assumption) | assumption)
                  have q276 : x8_1 < (l1.length : Int) := of_decide_eq_true (by first | (with_reducible assumption) | assumption)
                  obtain ⟨ad276, e276, hx276_0⟩ := Kd.at_int HR1.out x8_1 p276 q276
                  cases e276
                  replace hx276_0 := (HB.out.cell (World.block_lt_of_cell? w _ hx276_0)).trans hx276_0
                  replace p276 := eq_true p276
                  replace q276 := eq_true q276
                  have p110 : 0 ≤ (x9_1 : Int) := of_decide_eq_true (by first | (with_reducible assumption) | assumption)
                  have q110 : x9_1 < (t259.size : Int) := of_decide_eq_true (by first | (with_reducible assumption) | assumption)
                  have hx110 := bt_at t259 x9_1
                  replace p110 := eq_true p110
                  replace q110 := eq_true q110
                  have p121 : 0 ≤ (x9_1 : Int) := of_decide_eq_true (by first | (with_reducible assumption) | assumption)
                  have q121 : x9_1 < (t259.size : Int) := of_decide_eq_true (by first | (with_reducible assumption) | assumption)
                  have hx121 := bt_at t259 x9_1
                  replace p121 := eq_true p121
                  replace q121 := eq_true q121
                  go_wp2_with (first | ((with_reducible refine gate_builtin (b := .append) (xs := #[.tmp 79, .tmp 83]) rfl ?_); (try (refine gate_guard (by rfl) ?_; dsimp only)); at_builtin; refine Kd.R_append (Kd.int .u8) (w0 := w) w.heap.size rfl (.tmp 79) (.tmp 83) 42 5 (.int .u8 0) 1 rfl Tryd.underlying42 info5 rfl (by decide) (by omega) u7 x7_1 (bt t259 x9_1) [.int .u8 (bt t259 x9_1)] (fun _ => True) (fun _ => False) rfl rfl ?aP (fun _ hk => hk.elim) ?aF ?aO ?aB ?aS ?aL ?_; (case aP => exact rfl); (case aB => exact (W1 HB.out GE249.out)); (case aF => exact (fun _ _ => trivial)); (case aO => exact (Rq HO_7.out)); (case aS => exact (below_size (W1 HB.out GE249.out))); (case aL => have := LMc122.out; omega); intro v347 w123 ho hb hg hat; rw [← Ny346.out] at ho; have n0_ := Aside0.mk (blk_grown (g := gb249) (Bq BK249.out) hg (Kd.R_ne HO_7.out BK249.out (by decide))); have n1_ := Aside0.mk (hb); have n2_ := Aside0.mk (ho); clear BK249; clear HB; clear HO_7; have BK249 := n0_; have HB := n1_; have HO348 := n2_; clear n0_ n1_ n2_; clear ho hb hg hat))
                  go_roundg kj13
                  case measure => have := HK1.out; have := HJ13.out; omega
                  case rel => exact ⟨(y346), (wrap64 (x8_1 + 1)), (wrap64 (x9_1 + 1)), (by first | rfl | (simp; done) | (simp [*]; done)), (by first | rfl | (simp; done) | (simp [*]; done)), H', ⟨by have := HK1.out; have := HJ13.out; omega⟩, ⟨by (with_reducible repeat (first | apply Kd.R_alloc | apply Kd.R_drewN | apply Kd.R_drew)); exact HO348.out⟩, ⟨by (with_reducible repeat (first | refine blk_drewN ?_ _ | refine blk_drew ?_ | refine blk_alloc ?_ _)); exact BK249.out⟩, ⟨by repeat (first | (with_reducible first | exact HB.out | apply below_alloc | apply pw_below_drewN | apply below_drew1 | refine below_set ?_ GE249.out) | exact HB.out)⟩⟩
                 ·rw [if_neg c122] at H
                  exact absurd H (by simp)
               ·rw [if_neg c109] at H
                exact absurd H (by simp)
              ·rw [if_neg c108] at H
               exact absurd H (by simp)
         ·rw [if_neg c23] at H
          exact absurd H (by simp)
        ·rw [if_neg c22] at H
         exact absurd H (by simp)
       ·replace c21 := Bool.eq_false_iff.mpr c21
        subst c21
        have H1 : (if 0 ≤ x9_1 then (if x9_1 < (t259.size : Int) then (if (bt t259 x9_1) = 10 then (if (Int.tmod x8_1 2) = 1 then (if x7_1.length + 3 < 140737488355328 then ((some (x7_1 ++ bytesOf (⟨#[32, 9, 32]⟩ : ByteArray) : List Int)).bind fun y349 => (if y349.length < 140737488355328 then (depotlaw24_RequestIdle.l0 kj13 l1 t259 (y349 ++ [bt t259 x9_1]) x8_1 (wrap64 (x9_1 + 1)) l0_0 l0_1 l0_2) else (none))) else (none)) else (if x7_1.length < 140737488355328 then (depotlaw24_RequestIdle.l0 kj13 l1 t259 (x7_1 ++ [bt t259 x9_1]) x8_1 (wrap64 (x9_1 + 1)) l0_0 l0_1 l0_2) else (none))) else (if x7_1.length < 140737488355328 then (depotlaw24_RequestIdle.l0 kj13 l1 t259 (x7_1 ++ [bt t259 x9_1]) x8_1 (wrap64 (x9_1 + 1)) l0_0 l0_1 l0_2) else (none))) else (none)) else (none)) = some r := by rw [if_neg (show ¬ (false = true) by decide)] at H; exact H
        clear H
        have H := H1
        clear H1
        by_cases c124 : 0 ≤ x9_1
        ·rw [if_pos c124] at H
         have c124b0 : decide (0 ≤ x9_1) = true := decide_eq_true c124
         clear c124
         by_cases c125 : x9_1 < (t259.size : Int)
         ·rw [if_pos c125] at H
          have c125b0 : decide (x9_1 < (t259.size : Int)) = true := decide_eq_true c125
          clear c125
          by_cases c127 : (bt t259 x9_1) = 10
          ·rw [if_pos c127] at H
           have c127b0 : ((bt t259 x9_1) == 10) = true := beq_iff_eq.mpr c127
           have c127b1 : ((bt t259 x9_1) != 10) = false := bne_eq_false_iff_eq.mpr c127
           clear c127
           by_cases c128 : (Int.tmod x8_1 2) = 1
           ·rw [if_pos c128] at H
            have c128b0 : ((Int.tmod x8_1 2) == 1) = true := beq_iff_eq.mpr c128
            have c128b1 : ((Int.tmod x8_1 2) != 1) = false := bne_eq_false_iff_eq.mpr c128
            clear c128
            by_cases c129 : x7_1.length + 3 < 140737488355328
            ·rw [if_pos c129] at H
             have LMc129 := Aside0.mk c129
             clear c129
             obtain ⟨y349, hy349⟩ : ∃ y_ : List Int, y_ = (x7_1 ++ bytesOf (⟨#[32, 9, 32]⟩ : ByteArray)) := ⟨_, rfl⟩
             replace H : (if y349.length < 140737488355328 then (depotlaw24_RequestIdle.l0 kj13 l1 t259 (y349 ++ [bt t259 x9_1]) x8_1 (wrap64 (x9_1 + 1)) l0_0 l0_1 l0_2) else (none)) = some r := by first | (rw [hy349]; with_reducible exact H) | (have H2_ := (Option.bind_some _ _).symm.trans H; rw [hy349]; with_reducible exact H2_) | (have H2_ := (Option.bind_some _ _).symm.trans H; with_reducible exact H2_) | with_reducible exact H | (rw [hy349]; exact H) | exact H
             have Ny349 := Aside0.mk hy349
             clear hy349
             by_cases c131 : y349.length < 140737488355328
             ·rw [if_pos c131] at H
              have LMc131 := Aside0.mk c131
              clear c131
              obtain ⟨y352, hy352⟩ : ∃ y_ : List Int, y_ = (y349 ++ [bt t259 x9_1]) := ⟨_, rfl⟩
              replace H : (depotlaw24_RequestIdle.l0 kj13 l1 t259 y352 x8_1 (wrap64 (x9_1 + 1)) l0_0 l0_1 l0_2) = some r := by first | (rw [hy352]; with_reducible exact H) | (have H2_ := (Option.bind_some _ _).symm.trans H; rw [hy352]; with_reducible exact H2_) | (have H2_ := (Option.bind_some _ _).symm.trans H; with_reducible exact H2_) | with_reducible exact H | (rw [hy352]; exact H) | exact H
              have Ny352 := Aside0.mk hy352
              clear hy352
              have H' := Aside0.mk H
              clear H
              have p126 : 0 ≤ (x9_1 : Int) := of_decide_eq_true (by first | (with_reducible assumption) | assumption)
              have q126 : x9_1 < (t259.size : Int) := of_decide_eq_true (by first | (with_reducible assumption) | assumption)
              have hx126 := bt_at t259 x9_1
              replace p126 := eq_true p126
              replace q126 := eq_true q126
              go_wp2_with (first | (at_builtin; refine print_append_str (w0 := w) w.heap.size rfl (.tmp 77) _ 42 9 5 rfl Tryd.underlying42 Tryd.underlying9 info5 u7 x7_1 (⟨#[32, 9, 32]⟩ : ByteArray) rfl rfl ?aO ?aB ?aS ?aL ?_; (case aB => exact (W1 HB.out GE249.out)); (case aO => exact (Kd.own_of_R (Rq HO_7.out))); (case aS => exact (below_size (W1 HB.out GE249.out))); (case aL => have := LMc129.out; first | omega | (show _ + 3 ≤ _; omega)); intro v350 w132 ho0 hb hg; have ho := Kd.R_of_own (h1 := fun _ => rfl) (ok := fun _ => True) ho0 (fun _ _ => trivial); clear ho0; have hat := True.intro; rw [← Ny349.out] at ho; change Kd.R (Kd.int .u8) 5 w132 w.heap.size (fun _ => True) v350 y349 at ho; have n0_ := Aside0.mk (blk_grown (g := gb249) (Bq BK249.out) hg (Kd.R_ne HO_7.out BK249.out (by decide))); have n1_ := Aside0.mk (hb); have n2_ := Aside0.mk (ho); clear BK249; clear HB; clear HO_7; have BK249 := n0_; have HB := n1_; have HO351 := n2_; clear n0_ n1_ n2_; clear ho hb hg hat; have p130 : 0 ≤ (x9_1 : Int) := of_decide_eq_true (by first | (with_reducible assumption) | assumption); have q130 : x9_1 < (t259.size : Int) := of_decide_eq_true (by first | (with_reducible assumption) | assumption); have hx130 := bt_at t259 x9_1; replace p130 := eq_true p130; replace q130 := eq_true q130) | ((with_reducible refine gate_builtin (b := .append) (xs := #[.tmp 79, .tmp 83]) rfl ?_); (try (refine gate_guard (by rfl) ?_; dsimp only)); at_builtin; refine Kd.R_append (Kd.int .u8) (w0 := w) w.heap.size rfl (.tmp 79) (.tmp 83) 42 5 (.int .u8 0) 1 rfl Tryd.underlying42 info5 rfl (by decide) (by omega) v350 y349 (bt t259 x9_1) [.int .u8 (bt t259 x9_1)] (fun _ => True) (fun _ => False) rfl rfl ?aP (fun _ hk => hk.elim) ?aF ?aO ?aB ?aS ?aL ?_; (case aP => exact rfl); (case aB => exact (W1 HB.out GE249.out)); (case aF => exact (fun _ _ => trivial)); (case aO => exact (Rq HO351.out)); (case aS => exact (below_size (W1 HB.out GE249.out))); (case aL => have := LMc131.out; omega); intro v353 w133 ho hb hg hat; rw [← Ny352.out] at ho; have n0_ := Aside0.mk (blk_grown (g := gb249) (Bq BK249.out) hg (Kd.R_ne HO351.out BK249.out (by decide))); have n1_ := Aside0.mk (hb); have n2_ := Aside0.mk (ho); clear BK249; clear HB; clear HO351; have BK249 := n0_; have HB := n1_; have HO354 := n2_; clear n0_ n1_ n2_; clear ho hb hg hat))
              go_roundg kj13
              case measure => have := HK1.out; have := HJ13.out; omega
              case rel => exact ⟨(y352), (x8_1), (wrap64 (x9_1 + 1)), (by first | rfl | (simp; done) | (simp [*]; done)), (by first | rfl | (simp; done) | (simp [*]; done)), H', ⟨by have := HK1.out; have := HJ13.out; omega⟩, ⟨by (with_reducible repeat (first | apply Kd.R_alloc | apply Kd.R_drewN | apply Kd.R_drew)); exact HO354.out⟩, ⟨by (with_reducible repeat (first | refine blk_drewN ?_ _ | refine blk_drew ?_ | refine blk_alloc ?_ _)); exact BK249.out⟩, ⟨by repeat (first | (with_reducible first | exact HB.out | apply below_alloc | apply pw_below_drewN | apply below_drew1 | refine below_set ?_ GE249.out) | exact HB.out)⟩⟩
             ·rw [if_neg c131] at H
              exact absurd H (by simp)
            ·rw [if_neg c129] at H
             exact absurd H (by simp)
           ·rw [if_neg c128] at H
            have c128b0 : ((Int.tmod x8_1 2) == 1) = false := beq_eq_false_iff_ne.mpr c128
            have c128b1 : ((Int.tmod x8_1 2) != 1) = true := bne_iff_ne.mpr c128
            by_cases c135 : x7_1.length < 140737488355328
            ·rw [if_pos c135] at H
             have LMc135 := Aside0.mk c135
             clear c135
             obtain ⟨y355, hy355⟩ : ∃ y_ : List Int, y_ = (x7_1 ++ [bt t259 x9_1]) := ⟨_, rfl⟩
             replace H : (depotlaw24_RequestIdle.l0 kj13 l1 t259 y355 x8_1 (wrap64 (x9_1 + 1)) l0_0 l0_1 l0_2) = some r := by first | (rw [hy355]; with_reducible exact H) | (have H2_ := (Option.bind_some _ _).symm.trans H; rw [hy355]; with_reducible exact H2_) | (have H2_ := (Option.bind_some _ _).symm.trans H; with_reducible exact H2_) | with_reducible exact H | (rw [hy355]; exact H) | exact H
             have Ny355 := Aside0.mk hy355
             clear hy355
             have H' := Aside0.mk H
             clear H
             have p126 : 0 ≤ (x9_1 : Int) := of_decide_eq_true (by first | (with_reducible assumption) | assumption)
             have q126 : x9_1 < (t259.size : Int) := of_decide_eq_true (by first | (with_reducible assumption) | assumption)
             have hx126 := bt_at t259 x9_1
             replace p126 := eq_true p126
             replace q126 := eq_true q126
             have p134 : 0 ≤ (x9_1 : Int) := of_decide_eq_true (by first | (with_reducible assumption) | assumption)
             have q134 : x9_1 < (t259.size : Int) := of_decide_eq_true (by first | (with_reducible assumption) | assumption)
             have hx134 := bt_at t259 x9_1
             replace p134 := eq_true p134
             replace q134 := eq_true q134
             go_wp2_with (first | ((with_reducible refine gate_builtin (b := .append) (xs := #[.tmp 79, .tmp 83]) rfl ?_); (try (refine gate_guard (by rfl) ?_; dsimp only)); at_builtin; refine Kd.R_append (Kd.int .u8) (w0 := w) w.heap.size rfl (.tmp 79) (.tmp 83) 42 5 (.int .u8 0) 1 rfl Tryd.underlying42 info5 rfl (by decide) (by omega) u7 x7_1 (bt t259 x9_1) [.int .u8 (bt t259 x9_1)] (fun _ => True) (fun _ => False) rfl rfl ?aP (fun _ hk => hk.elim) ?aF ?aO ?aB ?aS ?aL ?_; (case aP => exact rfl); (case aB => exact (W1 HB.out GE249.out)); (case aF => exact (fun _ _ => trivial)); (case aO => exact (Rq HO_7.out)); (case aS => exact (below_size (W1 HB.out GE249.out))); (case aL => have := LMc135.out; omega); intro v356 w136 ho hb hg hat; rw [← Ny355.out] at ho; have n0_ := Aside0.mk (blk_grown (g := gb249) (Bq BK249.out) hg (Kd.R_ne HO_7.out BK249.out (by decide))); have n1_ := Aside0.mk (hb); have n2_ := Aside0.mk (ho); clear BK249; clear HB; clear HO_7; have BK249 := n0_; have HB := n1_; have HO357 := n2_; clear n0_ n1_ n2_; clear ho hb hg hat))
             go_roundg kj13
             case measure => have := HK1.out; have := HJ13.out; omega
             case rel => exact ⟨(y355), (x8_1), (wrap64 (x9_1 + 1)), (by first | rfl | (simp; done) | (simp [*]; done)), (by first | rfl | (simp; done) | (simp [*]; done)), H', ⟨by have := HK1.out; have := HJ13.out; omega⟩, ⟨by (with_reducible repeat (first | apply Kd.R_alloc | apply Kd.R_drewN | apply Kd.R_drew)); exact HO357.out⟩, ⟨by (with_reducible repeat (first | refine blk_drewN ?_ _ | refine blk_drew ?_ | refine blk_alloc ?_ _)); exact BK249.out⟩, ⟨by repeat (first | (with_reducible first | exact HB.out | apply below_alloc | apply pw_below_drewN | apply below_drew1 | refine below_set ?_ GE249.out) | exact HB.out)⟩⟩
            ·rw [if_neg c135] at H
             exact absurd H (by simp)
          ·rw [if_neg c127] at H
           have c127b0 : ((bt t259 x9_1) == 10) = false := beq_eq_false_iff_ne.mpr c127
           have c127b1 : ((bt t259 x9_1) != 10) = true := bne_iff_ne.mpr c127
           by_cases c138 : x7_1.length < 140737488355328
           ·rw [if_pos c138] at H
            have LMc138 := Aside0.mk c138
            clear c138
            obtain ⟨y358, hy358⟩ : ∃ y_ : List Int, y_ = (x7_1 ++ [bt t259 x9_1]) := ⟨_, rfl⟩
            replace H : (depotlaw24_RequestIdle.l0 kj13 l1 t259 y358 x8_1 (wrap64 (x9_1 + 1)) l0_0 l0_1 l0_2) = some r := by first | (rw [hy358]; with_reducible exact H) | (have H2_ := (Option.bind_some _ _).symm.trans H; rw [hy358]; with_reducible exact H2_) | (have H2_ := (Option.bind_some _ _).symm.trans H; with_reducible exact H2_) | with_reducible exact H | (rw [hy358]; exact H) | exact H
            have Ny358 := Aside0.mk hy358
            clear hy358
            have H' := Aside0.mk H
            clear H
            have p126 : 0 ≤ (x9_1 : Int) := of_decide_eq_true (by first | (with_reducible assumption) | assumption)
            have q126 : x9_1 < (t259.size : Int) := of_decide_eq_true (by first | (with_reducible assumption) | assumption)
            have hx126 := bt_at t259 x9_1
            replace p126 := eq_true p126
            replace q126 := eq_true q126
            have p137 : 0 ≤ (x9_1 : Int) := of_decide_eq_true (by first | (with_reducible assumption) | assumption)
            have q137 : x9_1 < (t259.size : Int) := of_decide_eq_true (by first | (with_reducible assumption) | assumption)
            have hx137 := bt_at t259 x9_1
            replace p137 := eq_true p137
            replace q137 := eq_true q137
            go_wp2_with (first | ((with_reducible refine gate_builtin (b := .append) (xs := #[.tmp 79, .tmp 83]) rfl ?_); (try (refine gate_guard (by rfl) ?_; dsimp only)); at_builtin; refine Kd.R_append (Kd.int .u8) (w0 := w) w.heap.size rfl (.tmp 79) (.tmp 83) 42 5 (.int .u8 0) 1 rfl Tryd.underlying42 info5 rfl (by decide) (by omega) u7 x7_1 (bt t259 x9_1) [.int .u8 (bt t259 x9_1)] (fun _ => True) (fun _ => False) rfl rfl ?aP (fun _ hk => hk.elim) ?aF ?aO ?aB ?aS ?aL ?_; (case aP => exact rfl); (case aB => exact (W1 HB.out GE249.out)); (case aF => exact (fun _ _ => trivial)); (case aO => exact (Rq HO_7.out)); (case aS => exact (below_size (W1 HB.out GE249.out))); (case aL => have := LMc138.out; omega); intro v359 w139 ho hb hg hat; rw [← Ny358.out] at ho; have n0_ := Aside0.mk (blk_grown (g := gb249) (Bq BK249.out) hg (Kd.R_ne HO_7.out BK249.out (by decide))); have n1_ := Aside0.mk (hb); have n2_ := Aside0.mk (ho); clear BK249; clear HB; clear HO_7; have BK249 := n0_; have HB := n1_; have HO360 := n2_; clear n0_ n1_ n2_; clear ho hb hg hat))
            go_roundg kj13
            case measure => have := HK1.out; have := HJ13.out; omega
            case rel => exact ⟨(y358), (x8_1), (wrap64 (x9_1 + 1)), (by first | rfl | (simp; done) | (simp [*]; done)), (by first | rfl | (simp; done) | (simp [*]; done)), H', ⟨by have := HK1.out; have := HJ13.out; omega⟩, ⟨by (with_reducible repeat (first | apply Kd.R_alloc | apply Kd.R_drewN | apply Kd.R_drew)); exact HO360.out⟩, ⟨by (with_reducible repeat (first | refine blk_drewN ?_ _ | refine blk_drew ?_ | refine blk_alloc ?_ _)); exact BK249.out⟩, ⟨by repeat (first | (with_reducible first | exact HB.out | apply below_alloc | apply pw_below_drewN | apply below_drew1 | refine below_set ?_ GE249.out) | exact HB.out)⟩⟩
           ·rw [if_neg c138] at H
            exact absurd H (by simp)
         ·rw [if_neg c125] at H
          exact absurd H (by simp)
        ·rw [if_neg c124] at H
         exact absurd H (by simp)
    ·rw [if_neg c13] at H
     have c13b0 : decide (x9_1 < (t259.size : Int)) = false := decide_eq_false c13
     clear c13
     replace H := Option.bind_eq_some_iff.mp H
     obtain ⟨⟨t262, t265, t268, t271, t272⟩, A1400, H⟩ := H
     replace H : (if t271 = 0 then (if t272 = 0 then ((depotref00_SameRequest.f k1 t262 t265 t268 l0_0 l0_1 l0_2).bind fun t274 => (if t274 = true then ((depotlaw24_awake.f k1).bind fun t275 => (some t275)) else (some false))) else (some false)) else (some false)) = some r := H
     have A140 := Aside0.mk A1400
     clear A1400
     by_cases c141 : t271 = 0
     ·rw [if_pos c141] at H
      have c141b0 : (t271 == 0) = true := beq_iff_eq.mpr c141
      have c141b1 : (t271 != 0) = false := bne_eq_false_iff_eq.mpr c141
      clear c141
      by_cases c142 : t272 = 0
      ·rw [if_pos c142] at H
       have c142b0 : (t272 == 0) = true := beq_iff_eq.mpr c142
       have c142b1 : (t272 != 0) = false := bne_eq_false_iff_eq.mpr c142
       clear c142
       replace H := Option.bind_eq_some_iff.mp H
       obtain ⟨t274, A1430, H⟩ := H
       replace H : (if t274 = true then ((depotlaw24_awake.f k1).bind fun t275 => (some t275)) else (some false)) = some r := H
       have A143 := Aside0.mk A1430
       clear A1430
       by_cases c144 : t274 = true
       ·subst c144
        have H1 : ((depotlaw24_awake.f k1).bind fun t275 => (some t275)) = some r := by rw [if_pos rfl] at H; exact H
        clear H
        have H := H1
        clear H1
        replace H := Option.bind_eq_some_iff.mp H
        obtain ⟨t275, A1450, H⟩ := H
        replace H : (some t275) = some r := H
        have A145 := Aside0.mk A1450
        clear A1450
        obtain rfl := Option.some.inj H
        have hcv146 := own_string (P := Tryd.prog) Tryd.underlying42 Tryd.underlying5 Tryd.underlying9 (Kd.own_of_R HO_7.out)
        go_wp2_with (first | ((with_reducible refine gate_callee (f := 19) rfl ?_); refine goesL_ (some 88) rfl rfl Tryd.func19 (by kernel_rfl) rfl #[.string (strOfNums x7_1)] rfl (by (try simp only [List.map_toArray, List.map_cons, List.map_nil]); first | done | rfl | (simp only [List.length_drop, List.length_take]; rfl) | (simp; done)) ?_; (with_reducible refine (request_Read.calls k1 (strOfNums x7_1) t262 t265 t268 t271 t272 _ ?side1 A140.out).mono ?_); (case side1 => exact GG.below HG.out (W1 HB.out GE249.out)); rintro e w147 ⟨v263, v266, v269, rfl, ho0, ho1, ho2, hb⟩; refine ⟨_, rfl, ?_⟩; have n0_ := Aside0.mk (Kd.R_below (Rq HO_7.out) hb); have n1_ := Aside0.mk (Kd.N_lower (Kd.N_mono (ok' := fun k_ => some k_ ≠ (v266 : Value).ownBlock ∧ some k_ ≠ (v269 : Value).ownBlock ∧ some k_ ≠ (u7 : Value).ownBlock ∧ k_ ≠ gb249) ho0 (fun k_ hk_ => ⟨hk_.2.1, hk_.2.2, (Kd.fresh' (Kd.R_lt (Rq HO_7.out)) k_ hk_.1), (Kd.freshB (g := gb249) (Bq BK249.out) k_ hk_.1)⟩)) (below_size (W1 HB.out GE249.out))); have n2_ := Aside0.mk (Kd.R_lower (Kd.R_mono (ok' := fun k_ => True) ho1 (fun _ hk_ => trivial)) (below_size (W1 HB.out GE249.out))); have n3_ := Aside0.mk (Kd.R_lower (Kd.R_mono (ok' := fun k_ => True) ho2 (fun _ hk_ => trivial)) (below_size (W1 HB.out GE249.out))); have n4_ := Aside0.mk (blk_below (g := gb249) (Bq BK249.out) hb); have n5_ := Aside0.mk (below_step (W1 HB.out GE249.out) hb); clear HO_7; clear BK249; clear HB; have HO_7 := n0_; have HO264 := n1_; have HO267 := n2_; have HO270 := n3_; have BK249 := n4_; have HB := n5_; clear n0_ n1_ n2_ n3_ n4_ n5_; (try clear hb); (try clear hb2); (try clear hk); (try clear hi); (try clear ho0); (try clear ho1); (try clear ho2)) | ((with_reducible refine gate_dst (N := 10) rfl ?_); (try (refine gate_guard (by rfl) ?_; dsimp only)); refine box_event ?hg (N := 10) ?hd (cs := #[.slice none 0 0, .slice none 0 0, .slice none 0 0]) (t := 26) ?hr ?_; (case hd => rfl); (case hg => rfl); (case hr => first | (go_simp; done) | (go_simp; rfl)); intro gb273 hg w148 hbox hb; have n0_ := Aside0.mk (Kd.R_below (Rq HO_7.out) hb); have n1_ := Aside0.mk (Kd.N_below (Kd.N_elderB (Nq HO264.out) gb273 (Nat.le_of_eq hg.symm)) hb); have n2_ := Aside0.mk (Kd.R_below (Rq HO267.out) hb); have n3_ := Aside0.mk (Kd.R_below (Rq HO270.out) hb); have n4_ := Aside0.mk (blk_below (g := gb249) (Bq BK249.out) hb); have n5_ := Aside0.mk (below_step (W1 HB.out GE249.out) hb); have n6_ := Aside0.mk (hbox); have n7_ := Aside0.mk ((by rw [hg]; exact (below_size (W1 HB.out GE249.out)) : w.heap.size ≤ gb273)); have n8_ := Aside0.mk ((by rw [hg]; exact (below_size (W1 HB.out GE249.out)) : w.heap.size ≤ gb273)); have n9_ := Aside0.mk ((by rw [hg]; exact Nat.ne_of_lt (blk_lt (g := gb249) (Bq BK249.out)) : gb249 ≠ gb273)); have n10_ := Aside0.mk ((by rw [hg]; exact Nat.ne_of_gt (blk_lt (g := gb249) (Bq BK249.out)) : gb273 ≠ gb249)); clear HO_7; clear HO264; clear HO267; clear HO270; clear BK249; clear HB; have HO_7 := n0_; have HO264 := n1_; have HO267 := n2_; have HO270 := n3_; have BK249 := n4_; have HB := n5_; have BK273 := n6_; have GW273 := n7_; have GE273 := n8_; have NB249_273 := n9_; have NB273_249 := n10_; clear n0_ n1_ n2_ n3_ n4_ n5_ n6_ n7_ n8_ n9_ n10_; clear hb hbox hg; obtain ⟨Ao149, co149, eo149⟩ := Kd.N_slice HO264.out; subst eo149; have hnb150 := NB273_249.out; have hnc150 := NB249_273.out; have hcz151_0 : w148.cell? ⟨gb273, 0, none⟩ = some (.slice none 0 0) := (blk_cell BK273.out 0).trans rfl; have hcz151_1 : w148.cell? ⟨gb273, 1, none⟩ = some (.slice none 0 0) := (blk_cell BK273.out 1).trans rfl; have hcz151_2 : w148.cell? ⟨gb273, 2, none⟩ = some (.slice none 0 0) := (blk_cell BK273.out 2).trans rfl; have hfz151_0 := blk_frozen BK273.out 0; have hfz151_1 := blk_frozen BK273.out 1; have hfz151_2 := blk_frozen BK273.out 2; obtain ⟨Ao152, co152, eo152⟩ := Kd.R_slice HO267.out; subst eo152; obtain ⟨Ao153, co153, eo153⟩ := Kd.R_slice HO270.out; subst eo153; have hcz154_0 : w148.cell? ⟨gb249, 0, none⟩ = some (.slice A0_0 l0_0.length c0_0) := (blk_cell BK249.out 0).trans rfl; have hcz154_1 : w148.cell? ⟨gb249, 1, none⟩ = some (.slice A0_1 l0_1.length c0_1) := (blk_cell BK249.out 1).trans rfl; have hcz154_2 : w148.cell? ⟨gb249, 2, none⟩ = some (.slice A0_2 l0_2.length c0_2) := (blk_cell BK249.out 2).trans rfl; have hfz154_0 := blk_frozen BK249.out 0; have hfz154_1 := blk_frozen BK249.out 1; have hfz154_2 := blk_frozen BK249.out 2) | (go_at_call 16; (with_reducible refine (depotref00_SameRequest.calls k1 _ _ t262 _ _ t265 _ _ t268 _ _ l0_0 _ _ l0_1 _ _ l0_2 true _ ?side1 ?side2 ?side3 ?side4 ?side5 ?side6 ?side7 ?side8 ?side9 ?side10 ?side11 ?side12 A143.out).mono ?_); (case side1 => refine (Kd.N_reads' (e := 23) (base := w.heap.size) (ok := fun k_ => ((some k_ ≠ (.slice Ao152 t265.length co152 : Value).ownBlock ∧ (some k_ ≠ (.slice Ao153 t268.length co153 : Value).ownBlock ∧ (some k_ ≠ (u7 : Value).ownBlock ∧ k_ ≠ gb249))) ∧ k_ ≠ gb273)) (n := t262.length) (c := co149) ?_).2.2; exact (by (with_reducible repeat (first | apply Kd.N_alloc | apply Kd.N_drewN | apply Kd.N_drew)); exact (Kd.N_mono (Kd.N_far (p := ⟨gb273, 2, none⟩) (Kd.N_far (p := ⟨gb273, 1, none⟩) (Kd.N_far (p := ⟨gb273, 0, none⟩) (Kd.N_mono HO264.out (fun k_ hk => (⟨hk, hk.2⟩ : _ ∧ k_ ≠ gb273))) (fun _ hk => hk.2) (.slice Ao149 t262.length co149)) (fun _ hk => hk.2) (.slice Ao152 t265.length co152)) (fun _ hk => hk.2) (.slice Ao153 t268.length co153)) (fun _ h_ => h_.1)))); (case side2 => exact (Kd.N_reads' HO264.out).2.1); (case side3 => refine (Kd.R_reads' (e := 46) (base := w.heap.size) (ok := fun k_ => True) (n := t265.length) (c := co152) ?_).2.2; exact (by (with_reducible repeat (first | apply Kd.R_alloc | apply Kd.R_drewN | apply Kd.R_drew)); exact (Kd.R_mono (Kd.R_far (p := ⟨gb273, 2, none⟩) (Kd.R_far (p := ⟨gb273, 1, none⟩) (Kd.R_far (p := ⟨gb273, 0, none⟩) (Rt HO267.out BK273.out) (fun _ hk => hk.2) (.slice Ao149 t262.length co149)) (fun _ hk => hk.2) (.slice Ao152 t265.length co152)) (fun _ hk => hk.2) (.slice Ao153 t268.length co153)) (fun _ h_ => h_.1)))); (case side4 => exact (Kd.R_reads' HO267.out).2.1); (case side5 => refine (Kd.R_reads' (e := 48) (base := w.heap.size) (ok := fun k_ => True) (n := t268.length) (c := co153) ?_).2.2; exact (by (with_reducible repeat (first | apply Kd.R_alloc | apply Kd.R_drewN | apply Kd.R_drew)); exact (Kd.R_mono (Kd.R_far (p := ⟨gb273, 2, none⟩) (Kd.R_far (p := ⟨gb273, 1, none⟩) (Kd.R_far (p := ⟨gb273, 0, none⟩) (Rt HO270.out BK273.out) (fun _ hk => hk.2) (.slice Ao149 t262.length co149)) (fun _ hk => hk.2) (.slice Ao152 t265.length co152)) (fun _ hk => hk.2) (.slice Ao153 t268.length co153)) (fun _ h_ => h_.1)))); (case side6 => exact (Kd.R_reads' HO270.out).2.1); (case side7 => exact Kd.C_below HR0_0.out (W2 HB.out GE249.out GE273.out)); (case side8 => exact HC0_0.out); (case side9 => exact Kd.C_below HR0_1.out (W2 HB.out GE249.out GE273.out)); (case side10 => exact HC0_1.out); (case side11 => exact Kd.C_below HR0_2.out (W2 HB.out GE249.out GE273.out)); (case side12 => exact HC0_2.out); rintro e w155 ⟨rfl, hb⟩; have n0_ := Aside0.mk (Kd.R_below (by (with_reducible repeat (first | apply Kd.R_alloc | apply Kd.R_drewN | apply Kd.R_drew)); exact (Kd.R_mono (Kd.R_far (p := ⟨gb273, 2, none⟩) (Kd.R_far (p := ⟨gb273, 1, none⟩) (Kd.R_far (p := ⟨gb273, 0, none⟩) (Rt HO_7.out BK273.out) (fun _ hk => hk.2) (.slice Ao149 t262.length co149)) (fun _ hk => hk.2) (.slice Ao152 t265.length co152)) (fun _ hk => hk.2) (.slice Ao153 t268.length co153)) (fun _ h_ => h_.1))) hb); have n1_ := Aside0.mk (Kd.N_below (by (with_reducible repeat (first | apply Kd.N_alloc | apply Kd.N_drewN | apply Kd.N_drew)); exact (Kd.N_mono (Kd.N_far (p := ⟨gb273, 2, none⟩) (Kd.N_far (p := ⟨gb273, 1, none⟩) (Kd.N_far (p := ⟨gb273, 0, none⟩) (Kd.N_mono HO264.out (fun k_ hk => (⟨hk, hk.2⟩ : _ ∧ k_ ≠ gb273))) (fun _ hk => hk.2) (.slice Ao149 t262.length co149)) (fun _ hk => hk.2) (.slice Ao152 t265.length co152)) (fun _ hk => hk.2) (.slice Ao153 t268.length co153)) (fun _ h_ => h_.1))) hb); have n2_ := Aside0.mk (Kd.R_below (by (with_reducible repeat (first | apply Kd.R_alloc | apply Kd.R_drewN | apply Kd.R_drew)); exact (Kd.R_mono (Kd.R_far (p := ⟨gb273, 2, none⟩) (Kd.R_far (p := ⟨gb273, 1, none⟩) (Kd.R_far (p := ⟨gb273, 0, none⟩) (Rt HO267.out BK273.out) (fun _ hk => hk.2) (.slice Ao149 t262.length co149)) (fun _ hk => hk.2) (.slice Ao152 t265.length co152)) (fun _ hk => hk.2) (.slice Ao153 t268.length co153)) (fun _ h_ => h_.1))) hb); have n3_ := Aside0.mk (Kd.R_below (by (with_reducible repeat (first | apply Kd.R_alloc | apply Kd.R_drewN | apply Kd.R_drew)); exact (Kd.R_mono (Kd.R_far (p := ⟨gb273, 2, none⟩) (Kd.R_far (p := ⟨gb273, 1, none⟩) (Kd.R_far (p := ⟨gb273, 0, none⟩) (Rt HO270.out BK273.out) (fun _ hk => hk.2) (.slice Ao149 t262.length co149)) (fun _ hk => hk.2) (.slice Ao152 t265.length co152)) (fun _ hk => hk.2) (.slice Ao153 t268.length co153)) (fun _ h_ => h_.1))) hb); have n4_ := Aside0.mk (blk_below (g := gb249) (o := .cells #[.slice A0_0 l0_0.length c0_0, .slice A0_1 l0_1.length c0_1, .slice A0_2 l0_2.length c0_2] 26 (0, 0)) (by (with_reducible repeat (first | refine blk_drewN ?_ _ | refine blk_drew ?_ | refine blk_alloc ?_ _)); refine blk_far ?_ NB249_273.out _; (with_reducible repeat (first | refine blk_drewN ?_ _ | refine blk_drew ?_ | refine blk_alloc ?_ _)); refine blk_far ?_ NB249_273.out _; (with_reducible repeat (first | refine blk_drewN ?_ _ | refine blk_drew ?_ | refine blk_alloc ?_ _)); refine blk_far ?_ NB249_273.out _; (with_reducible repeat (first | refine blk_drewN ?_ _ | refine blk_drew ?_ | refine blk_alloc ?_ _)); exact BK249.out) hb); have n5_ := Aside0.mk (blk_below (g := gb273) (o := .cells #[.slice Ao149 t262.length co149, .slice Ao152 t265.length co152, .slice Ao153 t268.length co153] 26 (0, 0)) (by (with_reducible repeat (first | refine blk_drewN ?_ _ | refine blk_drew ?_ | refine blk_alloc ?_ _)); refine blk_put (cs := #[.slice Ao149 t262.length co149, .slice Ao152 t265.length co152, .slice none 0 0]) ?_ 2 _ rfl; (with_reducible repeat (first | refine blk_drewN ?_ _ | refine blk_drew ?_ | refine blk_alloc ?_ _)); refine blk_put (cs := #[.slice Ao149 t262.length co149, .slice none 0 0, .slice none 0 0]) ?_ 1 _ rfl; (with_reducible repeat (first | refine blk_drewN ?_ _ | refine blk_drew ?_ | refine blk_alloc ?_ _)); refine blk_put (cs := #[.slice none 0 0, .slice none 0 0, .slice none 0 0]) ?_ 0 _ rfl; (with_reducible repeat (first | refine blk_drewN ?_ _ | refine blk_drew ?_ | refine blk_alloc ?_ _)); exact BK273.out) hb); have n6_ := Aside0.mk (below_step (W2 HB.out GE249.out GE273.out) hb); clear HO_7; clear HO264; clear HO267; clear HO270; clear BK249; clear BK273; clear HB; have HO_7 := n0_; have HO264 := n1_; have HO267 := n2_; have HO270 := n3_; have BK249 := n4_; have BK273 := n5_; have HB := n6_; clear n0_ n1_ n2_ n3_ n4_ n5_ n6_; (try clear hb); (try clear hb2); (try clear hk); (try clear hi)) | (go_at_call 21; (with_reducible refine (depotlaw24_awake.calls k1  t275 _ ?side1 A145.out).mono ?_); (case side1 => exact GG.below HG.out (W2 HB.out GE249.out GE273.out)); rintro e w156 ⟨rfl, hb⟩; have n0_ := Aside0.mk (Kd.R_below (Rq HO_7.out) hb); have n1_ := Aside0.mk (Kd.N_below (Nq HO264.out) hb); have n2_ := Aside0.mk (Kd.R_below (Rq HO267.out) hb); have n3_ := Aside0.mk (Kd.R_below (Rq HO270.out) hb); have n4_ := Aside0.mk (blk_below (g := gb249) (Bq BK249.out) hb); have n5_ := Aside0.mk (blk_below (g := gb273) (Bq BK273.out) hb); have n6_ := Aside0.mk (below_step (W2 HB.out GE249.out GE273.out) hb); clear HO_7; clear HO264; clear HO267; clear HO270; clear BK249; clear BK273; clear HB; have HO_7 := n0_; have HO264 := n1_; have HO267 := n2_; have HO270 := n3_; have BK249 := n4_; have BK273 := n5_; have HB := n6_; clear n0_ n1_ n2_ n3_ n4_ n5_ n6_; (try clear hb); (try clear hb2); (try clear hk); (try clear hi)))
        go_ret
        exact ⟨by first | rfl | (simp [errW_none, errW_some] <;> rfl) | (simp [*, errW_none, errW_some] <;> rfl) | (simp [errW_none, errW_some, Go.Proofs.YtmocooihkobdjaaDoor.listNe]; done), by repeat (first | (with_reducible first | exact HB.out | apply below_alloc | apply pw_below_drewN | apply below_drew1 | refine below_set ?_ GE249.out | refine below_set ?_ GE273.out) | exact HB.out)⟩
       ·replace c144 := Bool.eq_false_iff.mpr c144
        subst c144
        have H1 : (some false) = some r := by rw [if_neg (show ¬ (false = true) by decide)] at H; exact H
        clear H
        have H := H1
        clear H1
        exact absurd (Option.some.inj H) (by rw [hr]; decide)
      ·rw [if_neg c142] at H
       have c142b0 : (t272 == 0) = false := beq_eq_false_iff_ne.mpr c142
       have c142b1 : (t272 != 0) = true := bne_iff_ne.mpr c142
       exact absurd (Option.some.inj H) (by rw [hr]; decide)
     ·rw [if_neg c141] at H
      have c141b0 : (t271 == 0) = false := beq_eq_false_iff_ne.mpr c141
      have c141b1 : (t271 != 0) = true := bne_iff_ne.mpr c141
      exact absurd (Option.some.inj H) (by rw [hr]; decide)
 ·rw [if_neg c5] at H
  have c5b0 : (t260 == 0) = false := beq_eq_false_iff_ne.mpr c5
  have c5b1 : (t260 != 0) = true := bne_iff_ne.mpr c5
  replace H := Option.bind_eq_some_iff.mp H
  obtain ⟨t261, A1830, H⟩ := H
  replace H : (some t261) = some r := H
  have A183 := Aside0.mk A1830
  clear A1830
  obtain rfl := Option.some.inj H
  go_enter Tryd.func10, Tryd.ntmps10
  go_wp2_with (first | ((with_reducible refine gate_dst (N := 2) rfl ?_); (try (refine gate_guard (by rfl) ?_; dsimp only)); refine box_event ?hg (N := 2) ?hd (cs := #[.slice A0_0 l0_0.length c0_0, .slice A0_1 l0_1.length c0_1, .slice A0_2 l0_2.length c0_2]) (t := 26) ?hr ?_; (case hd => rfl); (case hg => rfl); (case hr => first | (go_simp; done) | (go_simp; rfl)); intro gb249 hg w184 hbox hb; have n0_ := Aside0.mk (below_step (W0 HB.out) hb); have n1_ := Aside0.mk (hbox); have n2_ := Aside0.mk ((by rw [hg]; exact (below_size (W0 HB.out)) : w.heap.size ≤ gb249)); have n3_ := Aside0.mk ((by rw [hg]; exact (below_size (W0 HB.out)) : w.heap.size ≤ gb249)); clear HB; have HB := n0_; have BK249 := n1_; have GW249 := n2_; have GE249 := n3_; clear n0_ n1_ n2_ n3_; clear hb hbox hg; have hcz185_0 : w184.cell? ⟨gb249, 0, none⟩ = some (.slice A0_0 l0_0.length c0_0) := (blk_cell BK249.out 0).trans rfl; have hcz185_1 : w184.cell? ⟨gb249, 1, none⟩ = some (.slice A0_1 l0_1.length c0_1) := (blk_cell BK249.out 1).trans rfl; have hcz185_2 : w184.cell? ⟨gb249, 2, none⟩ = some (.slice A0_2 l0_2.length c0_2) := (blk_cell BK249.out 2).trans rfl; have hfz185_0 := blk_frozen BK249.out 0; have hfz185_1 := blk_frozen BK249.out 1; have hfz185_2 := blk_frozen BK249.out 2) | ((with_reducible refine gate_callee (f := 12) rfl ?_); refine goesL_ (some 15) rfl rfl Tryd.func12 (by kernel_rfl) rfl #[.agg #[.slice A0_0 l0_0.length c0_0, .slice A0_1 l0_1.length c0_1, .slice A0_2 l0_2.length c0_2]] rfl (by (try simp only [List.map_toArray, List.map_cons, List.map_nil]); first | done | rfl | (simp only [List.length_drop, List.length_take]; rfl) | (simp; done)) ?_; (with_reducible refine (depotref00_CopyRequest.calls k _ _ l0_0 _ _ l0_1 _ _ l0_2 t250 t253 t256 _ ?side1 ?side2 ?side3 ?side4 ?side5 ?side6 A3.out).mono ?_); (case side1 => exact Cq HR0_0.out HB.out); (case side2 => exact HC0_0.out); (case side3 => exact Cq HR0_1.out HB.out); (case side4 => exact HC0_1.out); (case side5 => exact Cq HR0_2.out HB.out); (case side6 => exact HC0_2.out); rintro e w186 ⟨v251, v254, v257, rfl, ho0, ho1, ho2, hb⟩; refine ⟨_, rfl, ?_⟩; have n0_ := Aside0.mk (Kd.N_lower (Kd.N_mono (ok' := fun k_ => some k_ ≠ (v254 : Value).ownBlock ∧ some k_ ≠ (v257 : Value).ownBlock ∧ k_ ≠ gb249) (Kd.S_N (Kd.S_bound (Kd.S_apart' ho0 (Kd.R_typed ho2) (by decide)))) (fun k_ hk_ => ⟨hk_.1.1, hk_.1.2, (Kd.freshB (g := gb249) (Bq BK249.out) k_ hk_.2.1)⟩)) (below_size (W1 HB.out GE249.out))); have n1_ := Aside0.mk (Kd.R_lower ho1 (below_size (W1 HB.out GE249.out))); have n2_ := Aside0.mk (Kd.R_lower ho2 (below_size (W1 HB.out GE249.out))); have n3_ := Aside0.mk (blk_below (g := gb249) (Bq BK249.out) hb); have n4_ := Aside0.mk (below_step (W1 HB.out GE249.out) hb); clear BK249; clear HB; have HO252 := n0_; have HO255 := n1_; have HO258 := n2_; have BK249 := n3_; have HB := n4_; clear n0_ n1_ n2_ n3_ n4_; (try clear hb); (try clear hb2); (try clear hk); (try clear hi); (try clear ho0); (try clear ho1); (try clear ho2); obtain ⟨Ao187, co187, eo187⟩ := Kd.N_slice HO252.out; subst eo187; obtain ⟨Ao188, co188, eo188⟩ := Kd.R_slice HO255.out; subst eo188; obtain ⟨Ao189, co189, eo189⟩ := Kd.R_slice HO258.out; subst eo189) | ((with_reducible refine gate_callee (f := 17) rfl ?_); refine goesL_ (some 16) rfl rfl Tryd.func17 (by kernel_rfl) rfl #[.agg #[.slice Ao187 t250.length co187, .slice Ao188 t253.length co188, .slice Ao189 t256.length co189]] rfl (by (try simp only [List.map_toArray, List.map_cons, List.map_nil]); first | done | rfl | (simp only [List.length_drop, List.length_take]; rfl) | (simp; done)) ?_; (with_reducible refine (request_Write.calls k _ _ t250 _ _ t253 _ _ t256 t259 t260 _ ?side1 ?side2 ?side3 ?side4 ?side5 ?side6 ?side7 A4.out).mono ?_); (case side1 => repeat (first | exact (Kd.N_reads' HO252.out).2.2 | (with_reducible refine Kd.C_alloc ?_ _) | (with_reducible refine Kd.C_drewN ?_ _) | (with_reducible refine Kd.C_drew ?_))); (case side2 => exact (Kd.N_reads' HO252.out).2.1); (case side3 => repeat (first | exact (Kd.R_reads' HO255.out).2.2 | (with_reducible refine Kd.C_alloc ?_ _) | (with_reducible refine Kd.C_drewN ?_ _) | (with_reducible refine Kd.C_drew ?_))); (case side4 => exact (Kd.R_reads' HO255.out).2.1); (case side5 => repeat (first | exact (Kd.R_reads' HO258.out).2.2 | (with_reducible refine Kd.C_alloc ?_ _) | (with_reducible refine Kd.C_drewN ?_ _) | (with_reducible refine Kd.C_drew ?_))); (case side6 => exact (Kd.R_reads' HO258.out).2.1); (case side7 => exact GG.below HG.out (W1 HB.out GE249.out)); rintro e w190 ⟨rfl, hb⟩; refine ⟨_, rfl, ?_⟩; have n0_ := Aside0.mk (Kd.N_below (Nq HO252.out) hb); have n1_ := Aside0.mk (Kd.R_below (Rq HO255.out) hb); have n2_ := Aside0.mk (Kd.R_below (Rq HO258.out) hb); have n3_ := Aside0.mk (blk_below (g := gb249) (Bq BK249.out) hb); have n4_ := Aside0.mk (below_step (W1 HB.out GE249.out) hb); clear HO252; clear HO255; clear HO258; clear BK249; clear HB; have HO252 := n0_; have HO255 := n1_; have HO258 := n2_; have BK249 := n3_; have HB := n4_; clear n0_ n1_ n2_ n3_ n4_; (try clear hb); (try clear hb2); (try clear hk); (try clear hi)) | ((with_reducible refine gate_callee (f := 21) rfl ?_); refine goesL_ (some 21) rfl rfl Tryd.func21 (by kernel_rfl) rfl #[] rfl (by (try simp only [List.map_toArray, List.map_cons, List.map_nil]); first | done | rfl | (simp only [List.length_drop, List.length_take]; rfl) | (simp; done)) ?_; (with_reducible refine (depotlaw24_awake.calls k  t261 _ ?side1 A183.out).mono ?_); (case side1 => exact GG.below HG.out (W1 HB.out GE249.out)); rintro e w191 ⟨rfl, hb⟩; refine ⟨_, rfl, ?_⟩; have n0_ := Aside0.mk (Kd.N_below (Nq HO252.out) hb); have n1_ := Aside0.mk (Kd.R_below (Rq HO255.out) hb); have n2_ := Aside0.mk (Kd.R_below (Rq HO258.out) hb); have n3_ := Aside0.mk (blk_below (g := gb249) (Bq BK249.out) hb); have n4_ := Aside0.mk (below_step (W1 HB.out GE249.out) hb); clear HO252; clear HO255; clear HO258; clear BK249; clear HB; have HO252 := n0_; have HO255 := n1_; have HO258 := n2_; have BK249 := n3_; have HB := n4_; clear n0_ n1_ n2_ n3_ n4_; (try clear hb); (try clear hb2); (try clear hk); (try clear hi)))
  go_ret
  exact ⟨by first | rfl | (simp [errW_none, errW_some] <;> rfl) | (simp [*, errW_none, errW_some] <;> rfl) | (simp [errW_none, errW_some, Go.Proofs.YtmocooihkobdjaaDoor.listNe]; done), by repeat (first | (with_reducible first | exact HB.out | apply below_alloc | apply pw_below_drewN | apply below_drew1 | refine below_set ?_ GE249.out) | exact HB.out)⟩
end Go.Proofs.YtmocooihkobdjaaDoor.I
end
section
namespace Go.Proofs.YtmocooihkobdjaaDoor.I
open Go.RowKit Go.Proofs.YtmocooihkobdjaaDoorW.PrintWords Go.Proofs.YtmocooihkobdjaaDoorW.PrintLast Go.Proofs.YtmocooihkobdjaaDoorW.PrintMore
attribute [local go_sem] max2_int min2_int max_two min_two max_three min_three max_four min_four
set_option linter.unusedVariables false
set_option linter.unusedSimpArgs false
end Go.Proofs.YtmocooihkobdjaaDoor.I
end
section
set_option linter.unusedVariables false
set_option linter.unusedSimpArgs false
namespace Go.Proofs.YtmocooihkobdjaaDoor.Ver
open Go.RowKit Go.Proofs.YtmocooihkobdjaaDoor.I Go.Proofs.YtmocooihkobdjaaDoorW.PrintWords Go.Proofs.YtmocooihkobdjaaDoorW.PrintLast
theorem wrap_id {x : Int} (h0 : -9223372036854775808 ≤ x) (h1 : x ≤ 9223372036854775807) : wrap64 x = x := by
  unfold wrap64
  omega
def lastN (s : ByteArray) (c : Int) : Nat → Int
  | 0 => -1
  | n + 1 => if bt s n = c then n else lastN s c n
theorem lastN_bd (s : ByteArray) (c : Int) : ∀ n, -1 ≤ lastN s c n ∧ lastN s c n + 1 ≤ n := by
  intro n
  induction n with
  | zero => exact ⟨by simp [lastN], by simp [lastN]⟩
  | succ n ih =>
    unfold lastN
    split <;> omega
theorem lastB_ev (s : ByteArray) (c : Int) (hs : s.size ≤ 140737488351232) : ∀ n : Nat, n ≤ s.size → Ev (fun k => bytealg_LastIndexByteString.l0 k s c (wrap64 ((n : Int) - 1))) (lastN s c n) := by
  intro n
  induction n with
  | zero =>
    intro _
    refine Ev.step (f := fun _ => some (-1)) (fun k => ?_) (Ev.now _)
    have e : wrap64 (((0 : Nat) : Int) - 1) = -1 := wrap_id (by omega) (by omega)
    simp only [bytealg_LastIndexByteString.l0]
    rw [e, if_neg (by omega)]
  | succ n ih =>
    intro hn
    have e : wrap64 (((n + 1 : Nat) : Int) - 1) = n := by rw [wrap_id (by omega) (by omega)]; omega
    by_cases hb : bt s n = c
    · refine Ev.step (f := fun _ => some (n : Int)) (fun k => ?_) ?_
      · simp only [bytealg_LastIndexByteString.l0]
        rw [e, if_pos (by omega), if_pos (by omega), if_pos (by omega), if_pos hb]
      · have : lastN s c (n + 1) = n := by unfold lastN; rw [if_pos hb]
        rw [this]; exact Ev.now _
    · refine Ev.step (f := fun k => bytealg_LastIndexByteString.l0 k s c (wrap64 ((n : Int) - 1))) (fun k => ?_) ?_
      · simp only [bytealg_LastIndexByteString.l0]
        rw [e, if_pos (by omega), if_pos (by omega), if_pos (by omega), if_neg hb]
      · have : lastN s c (n + 1) = lastN s c n := by conv => lhs; unfold lastN; rw [if_neg hb]
        rw [this]; exact ih (by omega)
theorem last_ev (s : ByteArray) (c : Int) (hs : s.size ≤ 140737488351232) : Ev (fun k => strings_LastIndexByte.f k s c) (lastN s c s.size) := by
  unfold strings_LastIndexByte.f bytealg_LastIndexByteString.f
  exact Ev.bind (lastB_ev s c hs s.size (Nat.le_refl _)) (Ev.now _)
theorem idx_bd (l : List UInt8) (c : UInt8) : -1 ≤ Lib.indexByte l c ∧ Lib.indexByte l c + 1 ≤ l.length := by
  refine ⟨Lib.indexByte_ge l c, ?_⟩
  induction l with
  | nil => simp [Lib.indexByte]
  | cons b l ih =>
    unfold Lib.indexByte
    split
    · simp only [List.length_cons]; omega
    · split
      · simp only [List.length_cons]; omega
      · simp only [List.length_cons]; omega
theorem bt_eq (s : ByteArray) (i : Nat) (h : i < s.size) : bt s i = ((s[i]'h).toNat : Int) := by
  have := bt_at s (i : Int) (by simpa using h)
  rw [← this]
  simp
theorem drop_cons (s : ByteArray) (i : Nat) (h : i < s.size) : s.data.toList.drop i = s[i]'h :: s.data.toList.drop (i + 1) := by
  have hl : i < s.data.toList.length := by simpa using h
  rw [List.drop_eq_getElem_cons hl]
  rfl
theorem cut_one (s : ByteArray) (c : UInt8) (hs : s.size ≤ 140737488351232) :
    strings_Cut.f s ⟨#[c]⟩ = some (if 0 ≤ Lib.indexByte s.data.toList c then (s.extract 0 (Lib.indexByte s.data.toList c).toNat, s.extract (Lib.indexByte s.data.toList c + 1).toNat s.size, true) else (s, ⟨#[]⟩, false)) := by
  have hb := idx_bd s.data.toList c
  have hl : (s.data.toList.length : Int) = s.size := by simp
  unfold strings_Cut.f stringslite_Cut.f stringslite_Index.f
  have h1 : (⟨#[c]⟩ : ByteArray).size = 1 := rfl
  rw [if_pos h1]
  have h0 : (⟨#[c]⟩ : ByteArray).data.getD 0 0 = c := rfl
  rw [h0]
  simp only [Option.bind_some]
  by_cases h : 0 ≤ Lib.indexByte s.data.toList c
  · have e : wrap64 (Lib.indexByte s.data.toList c + (((⟨#[c]⟩ : ByteArray).size : Nat) : Int)) = Lib.indexByte s.data.toList c + 1 := by
      rw [h1]
      exact wrap_id (by omega) (by omega)
    rw [if_pos (show Lib.indexByte s.data.toList c ≥ 0 from h), if_pos h, if_pos (by omega), e, if_pos (by omega), if_pos (by omega), if_pos h]
    rfl
  · rw [if_neg (show ¬ Lib.indexByte s.data.toList c ≥ 0 from h), if_neg h]
    rfl
def colonI (s : ByteArray) : Int := Lib.indexByte s.data.toList 58
def epochS (s : ByteArray) : ByteArray := epochR s (colonI s)
def behindS (s : ByteArray) : ByteArray := restR s (colonI s)
def minusI (s : ByteArray) : Int := lastN (behindS s) 45 (behindS s).size
def upS (s : ByteArray) : ByteArray := upR (behindS s) (minusI s)
def revS (s : ByteArray) : ByteArray := revR (behindS s) (minusI s)
def colonS (s : ByteArray) : Bool := decide (0 ≤ colonI s)
def minusS (s : ByteArray) : Bool := decide (0 ≤ minusI s)
def okS (s : ByteArray) : Bool := (fin (colonS s) (minusS s) (epochS s) (upS s) (revS s)).2.2.2
theorem behind_le (s : ByteArray) : (behindS s).size ≤ s.size := by
  unfold behindS restR
  split
  · simp
  · exact Nat.le_refl _
theorem colon_bd (s : ByteArray) : colonI s + 1 ≤ s.size := by
  have := (idx_bd s.data.toList 58).2
  have hl : (s.data.toList.length : Int) = s.size := by simp
  unfold colonI
  omega
theorem minus_bd (s : ByteArray) : minusI s + 1 ≤ (behindS s).size := (lastN_bd (behindS s) 45 _).2
theorem parted_ev (s : ByteArray) (hs : s.size ≤ 140737488351232) : Ev (fun k => version_parted.f k s) (epochS s, upS s, revS s, okS s) := by
  have hb := behind_le s
  have hc : strings_Cut.f s ⟨#[58]⟩ = some (if 0 ≤ colonI s then s.extract 0 (colonI s).toNat else s, if 0 ≤ colonI s then s.extract (colonI s + 1).toNat s.size else ⟨#[]⟩, colonS s) := by
    rw [cut_one s 58 hs]
    unfold colonS colonI
    split <;> simp_all
  have hrest : restOf s (if 0 ≤ colonI s then s.extract 0 (colonI s).toNat else s, if 0 ≤ colonI s then s.extract (colonI s + 1).toNat s.size else ⟨#[]⟩, colonS s) = behindS s := by
    unfold restOf behindS restR colonS
    simp only [decide_eq_true_eq]
    split <;> rfl
  have hep : epochOf (if 0 ≤ colonI s then s.extract 0 (colonI s).toNat else s, if 0 ≤ colonI s then s.extract (colonI s + 1).toNat s.size else ⟨#[]⟩, colonS s) = epochS s := by
    unfold epochOf epochS epochR colonS
    simp only [decide_eq_true_eq]
    split <;> rfl
  unfold version_parted.f
  rw [hc]
  simp only [Option.bind_some]
  rw [hrest, hep]
  refine Ev.bind (last_ev (behindS s) 45 (by omega)) ?_
  rw [if_pos (by omega)]
  have hm := minus_bd s
  have e : minusOf (colonS s) (epochS s) (behindS s) (lastN (behindS s) 45 (behindS s).size) = some (epochS s, upS s, revS s, okS s) := by
    change minusOf (colonS s) (epochS s) (behindS s) (minusI s) = _
    unfold minusOf okS upS revS minusS upR revR fin
    by_cases h : 0 ≤ minusI s
    · simp only [if_pos h, if_pos hm, decide_eq_true h]
    · simp only [if_neg h, decide_eq_false h]
      rfl
  rw [e]
  exact Ev.now _
end Go.Proofs.YtmocooihkobdjaaDoor.Ver
end
section
set_option linter.unusedVariables false
set_option linter.unusedSimpArgs false
namespace Go.Proofs.YtmocooihkobdjaaDoor.Model
open Go.RowKit Go.Proofs.YtmocooihkobdjaaDoor.I Go.Proofs.YtmocooihkobdjaaDoorW.PrintWords Go.Proofs.YtmocooihkobdjaaDoorW.PrintLast Go.Proofs.YtmocooihkobdjaaDoor.Ver
abbrev B := List UInt8
theorem byte_all {P : UInt8 → Prop} (h : ∀ n : Fin 256, P (UInt8.ofNat n.val)) (c : UInt8) : P c := by
  have := h ⟨c.toNat, c.toNat_lt⟩
  simpa using this
def gapB (c : UInt8) : Bool := c == 32 || (c == 9 || c == 10)
def sgnB (c : UInt8) : Bool := c == 44 || (c == 124 || (c == 40 || c == 41))
def mrkB (c : UInt8) : Bool := c == 60 || (c == 61 || c == 62)
def wrdB (c : UInt8) : Bool := !gapB c && !sgnB c
def kd (c : UInt8) : Int := if gapB c = true then 1 else if sgnB c = true then 2 else if mrkB c = true then 3 else 0
def dg (l : B) : B := l.dropWhile gapB
def ofL (l : B) : ByteArray := ⟨l.toArray⟩
def at_ (s : ByteArray) (i : Nat) : B := s.data.toList.drop i
theorem toL_ofL (l : B) : (ofL l).data.toList = l := by simp [ofL]
theorem ofL_toL (s : ByteArray) : ofL s.data.toList = s := by
  obtain ⟨⟨x⟩⟩ := s
  rfl
theorem ofL_size (l : B) : (ofL l).size = l.length := by
  show (ofL l).data.size = _
  simp [ofL]
theorem ofL_list (l : B) : (ofL l).toList = l := by
  rw [ByteArray.toList_eq]
  rfl
theorem at_len (s : ByteArray) (i : Nat) : (at_ s i).length = s.size - i := by
  unfold at_
  rw [List.length_drop]
  rfl
theorem at_lt {s : ByteArray} {i : Nat} (h : i < s.size) : at_ s i = s[i]'h :: at_ s (i + 1) := drop_cons s i h
theorem at_end (s : ByteArray) : at_ s s.size = [] := List.eq_nil_of_length_eq_zero (by rw [at_len]; omega)
theorem at_zero (s : ByteArray) : at_ s 0 = s.data.toList := rfl
theorem at_nil {s : ByteArray} {i : Nat} (hi : i ≤ s.size) (h : at_ s i = []) : i = s.size := by
  have := at_len s i
  rw [h] at this
  simp at this
  omega
theorem at_cons {s : ByteArray} {i : Nat} {c : UInt8} {r : B} (hi : i ≤ s.size) (h : at_ s i = c :: r) : i < s.size ∧ bt s (i : Int) = (c.toNat : Int) ∧ at_ s (i + 1) = r := by
  have hl : i < s.size := by
    have := at_len s i
    rw [h] at this
    simp at this
    omega
  rw [at_lt hl] at h
  injection h with h1 h2
  exact ⟨hl, by rw [bt_eq s i hl, h1], h2⟩
theorem ext_at (s : ByteArray) (i e : Nat) : s.extract (i : Int).toNat (e : Int).toNat = ofL ((at_ s i).take (e - i)) := by
  rw [← ofL_toL (s.extract (i : Int).toNat (e : Int).toNat)]
  congr 1
  rw [ByteArray.data_extract, Array.toList_extract]
  simp [at_, List.extract]
theorem take_tw (p : UInt8 → Bool) (l : B) : l.take (l.takeWhile p).length = l.takeWhile p := by
  conv => lhs; rw [← List.takeWhile_append_dropWhile (p := p) (l := l)]
  rw [List.take_left']
  simp
theorem toNat_inj {c d : UInt8} : ((c.toNat : Int) = (d.toNat : Int)) ↔ c = d :=
  ⟨fun h => Lib.byte_eq_of_toNat h, fun h => by rw [h]⟩
def plB (c : UInt8) : Bool := (decide (97 ≤ c) && decide (c ≤ 122)) || (decide (48 ≤ c) && decide (c ≤ 57))
def namB (f : Bool) (c : UInt8) : Bool := plB c || (!f && (c == 43 || (c == 45 || c == 46)))
def nameL : Bool → B → Bool
  | _, [] => true
  | f, c :: l => namB f c && nameL false l
def nameM (l : B) : Bool := nameL true l && decide (1 < l.length)
theorem namB_int (f : Bool) : ∀ c : UInt8, namB f c = decide ((((c.toNat : Int) ≥ 97 ∧ (c.toNat : Int) ≤ 122) ∨ ((c.toNat : Int) ≥ 48 ∧ (c.toNat : Int) ≤ 57)) ∨ (f = false ∧ ((c.toNat : Int) = 43 ∨ (c.toNat : Int) = 45 ∨ (c.toNat : Int) = 46))) := by
  cases f
  · exact byte_all (by decide +kernel)
  · exact byte_all (by decide +kernel)
theorem name_ev (s : ByteArray) (hs : s.size ≤ 140737488351232) : Ev (fun k => relation_Name.f k s) (nameM s.data.toList) := by
  have key : ∀ (d i : Nat), i + d = s.size → Ev (fun k => relation_Name.l0 k s (i : Int)) (nameL (decide (i = 0)) (at_ s i) && decide ((s.size : Int) > 1)) := by
    intro d
    induction d with
    | zero =>
      intro i hi
      obtain rfl : i = s.size := by omega
      rw [at_end]
      refine Ev.step (f := fun _ => some (true && decide ((s.size : Int) > 1))) (fun k => ?_) (Ev.now _)
      simp only [relation_Name.l0]
      rw [if_neg (by omega)]
      rfl
    | succ d ih =>
      intro i hi
      have hl : i < s.size := by omega
      have ew : wrap64 ((i : Int) + 1) = ((i + 1 : Nat) : Int) := by rw [wrap_id (by omega) (by omega)]; omega
      have hp := ih (i + 1) (by omega)
      rw [show decide (i + 1 = 0) = false from decide_eq_false (by omega)] at hp
      have hb := namB_int (decide (i = 0)) (s[i]'hl)
      have ep : ∀ k, relation_Name.l0 (k + 2) s (i : Int) = if namB (decide (i = 0)) (s[i]'hl) = true then relation_Name.l0 k s ((i + 1 : Nat) : Int) else some false := by
        intro k
        simp only [relation_Name.l0, relation_Name.j1, ew, bt_eq s i hl, if_pos (show (i : Int) < s.size by omega), if_pos (show (0 : Int) ≤ i by omega)]
        rw [hb]
        repeat' split
        all_goals first | rfl | (exfalso; simp_all; done) | (exfalso; simp_all; omega)
      rw [at_lt hl, nameL]
      cases hg : namB (decide (i = 0)) (s[i]'hl) with
      | true =>
        rw [Bool.true_and]
        exact Ev.step (f := fun k => relation_Name.l0 (k + 1) s (i : Int)) (fun k => rfl) (Ev.step (f := fun k => relation_Name.l0 k s ((i + 1 : Nat) : Int)) (fun k => by rw [ep, if_pos hg]) hp)
      | false =>
        rw [Bool.false_and, Bool.false_and]
        exact Ev.step (f := fun k => relation_Name.l0 (k + 1) s (i : Int)) (fun k => rfl) (Ev.step (f := fun _ => some false) (fun k => by rw [ep, if_neg (by simp [hg])]) (Ev.now _))
  unfold relation_Name.f
  have h := key s.size 0 (by omega)
  have e : decide ((s.size : Int) > 1) = decide (1 < s.data.toList.length) := by
    have : s.data.toList.length = s.size := by simp
    rw [this]
    exact decide_eq_decide.2 (by omega)
  rw [e] at h
  exact h
theorem plegal_ev (s : ByteArray) (hs : s.size ≤ 140737488351232) : Ev (fun k => version_Legal.f k s) (okS s) := by
  unfold version_Legal.f
  exact Ev.bind (parted_ev s hs) (Ev.now _)
end Go.Proofs.YtmocooihkobdjaaDoor.Model
end
