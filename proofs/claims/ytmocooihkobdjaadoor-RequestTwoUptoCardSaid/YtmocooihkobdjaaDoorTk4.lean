/- A part of the proof: the texts of this claim, packed by a program of this session (wip/pack.py). -/
import Derived.Lib.IndexBytes
import Derived.Laws.StructEq
import Derived.Lib.Join
import Derived.Lib.SplitLaws
import Derived.Lib.IndexAny
import Derived.Lib.SlTrimSet
import Derived.KernelRfl
import Derived.Test.YtmocooihkobdjaaDoorTk1
import Derived.Test.YtmocooihkobdjaaDoorTk2
import Derived.Test.YtmocooihkobdjaaDoorTk3
section
namespace Go.Proofs.YtmocooihkobdjaaDoor.T
open Go.RowKit Go.Proofs.YtmocooihkobdjaaDoorW.PrintWords Go.Proofs.YtmocooihkobdjaaDoorW.PrintLast Go.Proofs.YtmocooihkobdjaaDoorW.PrintMore
attribute [local go_sem] max2_int min2_int max_two min_two max_three min_three max_four min_four
set_option linter.unusedVariables false
set_option linter.unusedSimpArgs false
def depotlaw24_RequestTwo.f (k : Nat) (a0 : ByteArray) (a1 : ByteArray) : Option (Bool) := (request_Read.f k a0).bind fun bt201 => ((request_Read.f k a1).bind fun bt213 => (if a0.size + 1 ≤ 9223372036854775807 then (if (a0 ++ (⟨#[10]⟩ : ByteArray)).size + a1.size ≤ 9223372036854775807 then ((request_Read.f k ((a0 ++ (⟨#[10]⟩ : ByteArray)) ++ a1)).bind fun bt225 => (if bt201.2.2.2.1 = 0 then (if bt213.2.2.2.1 = 0 then ((request_Join.f k bt201.1 bt201.2.1 bt201.2.2.1 bt213.1 bt213.2.1 bt213.2.2.1).bind fun bt238 => (if bt225.2.2.2.1 = 0 then (if bt225.2.2.2.2 = 0 then (if bt238.2.2.2 = 0 then ((depotref00_SameRequest.f k bt225.1 bt225.2.1 bt225.2.2.1 bt238.1 bt238.2.1 bt238.2.2.1).bind fun t249 => (if t249 = true then ((depotlaw24_awake.f k).bind fun t250 => (some t250)) else (some false))) else (some false)) else (some false)) else (some false))) else (if bt225.2.2.2.1 = bt213.2.2.2.1 then ((depotlaw24_feeds.f k a0).bind fun t251 => (if bt225.2.2.2.2 = (wrap64 ((wrap64 (t251 + 1)) + bt213.2.2.2.2)) then ((depotlaw24_awake.f k).bind fun t252 => (some t252)) else (some false))) else (some false))) else (if bt225.2.2.2.1 = bt201.2.2.2.1 then (if bt225.2.2.2.2 = bt201.2.2.2.2 then ((depotlaw24_awake.f k).bind fun t237 => (some t237)) else (some false)) else (some false)))) else (none)) else (none)))
theorem depotlaw24_RequestTwo.mono : ∀ a0 a1 k, LeO (depotlaw24_RequestTwo.f k a0 a1) (depotlaw24_RequestTwo.f (k + 1) a0 a1) := by
 intro a0 a1 k
 unfold depotlaw24_RequestTwo.f
 repeat' first
   | (with_reducible exact depotlaw24_awake.mono _)
   | (with_reducible exact depotlaw24_feeds.mono _ _)
   | (with_reducible exact depotref00_SameRequest.mono _ _ _ _ _ _ _)
   | (with_reducible exact request_Join.mono _ _ _ _ _ _ _)
   | (with_reducible exact request_Read.mono _ _)
   | (with_reducible exact LeO.refl _)
   | (with_reducible exact LeO.none _)
   | (with_reducible refine LeO.ite ?_ ?_)
   | (with_reducible refine LeO.bind ?_ (fun _ => ?_))
   | exact depotlaw24_awake.mono _
   | exact depotlaw24_feeds.mono _ _
   | exact depotref00_SameRequest.mono _ _ _ _ _ _ _
   | exact request_Join.mono _ _ _ _ _ _ _
   | exact request_Read.mono _ _
   | exact LeO.none _
   | refine LeO.ite ?_ ?_
   | refine LeO.bind ?_ (fun _ => ?_)
set_option maxHeartbeats 8000000 in
set_option maxRecDepth 100000 in
theorem depotlaw24_RequestTwo.calls (k : Nat) (a0 : ByteArray) (a1 : ByteArray) (r : Bool) (w : World) (hG : GG w) (h : depotlaw24_RequestTwo.f k a0 a1 = some r) (hr : r = true) :
  Calls Tryd.prog 7 #[.string a0, .string a1] w fun e w' => e = .returned (.bool r) ∧ Below w.heap.size w w' := by
 have hu26 := Tryd.underlying26
 have HB := Aside0.mk (Below.refl w.heap.size w)
 have HG := Aside0.mk hG
 clear hG
 have H : ((request_Read.f k a0).bind fun bt201 => ((request_Read.f k a1).bind fun bt213 => (if a0.size + 1 ≤ 9223372036854775807 then (if (a0 ++ (⟨#[10]⟩ : ByteArray)).size + a1.size ≤ 9223372036854775807 then ((request_Read.f k ((a0 ++ (⟨#[10]⟩ : ByteArray)) ++ a1)).bind fun bt225 => (if bt201.2.2.2.1 = 0 then (if bt213.2.2.2.1 = 0 then ((request_Join.f k bt201.1 bt201.2.1 bt201.2.2.1 bt213.1 bt213.2.1 bt213.2.2.1).bind fun bt238 => (if bt225.2.2.2.1 = 0 then (if bt225.2.2.2.2 = 0 then (if bt238.2.2.2 = 0 then ((depotref00_SameRequest.f k bt225.1 bt225.2.1 bt225.2.2.1 bt238.1 bt238.2.1 bt238.2.2.1).bind fun t249 => (if t249 = true then ((depotlaw24_awake.f k).bind fun t250 => (some t250)) else (some false))) else (some false)) else (some false)) else (some false))) else (if bt225.2.2.2.1 = bt213.2.2.2.1 then ((depotlaw24_feeds.f k a0).bind fun t251 => (if bt225.2.2.2.2 = (wrap64 ((wrap64 (t251 + 1)) + bt213.2.2.2.2)) then ((depotlaw24_awake.f k).bind fun t252 => (some t252)) else (some false))) else (some false))) else (if bt225.2.2.2.1 = bt201.2.2.2.1 then (if bt225.2.2.2.2 = bt201.2.2.2.2 then ((depotlaw24_awake.f k).bind fun t237 => (some t237)) else (some false)) else (some false)))) else (none)) else (none)))) = some r := h
 clear h
 replace H := Option.bind_eq_some_iff.mp H
 obtain ⟨⟨t201, t204, t207, t210, t211⟩, A30, H⟩ := H
 replace H : ((request_Read.f k a1).bind fun bt213 => (if a0.size + 1 ≤ 9223372036854775807 then (if (a0 ++ (⟨#[10]⟩ : ByteArray)).size + a1.size ≤ 9223372036854775807 then ((request_Read.f k ((a0 ++ (⟨#[10]⟩ : ByteArray)) ++ a1)).bind fun bt225 => (if t210 = 0 then (if bt213.2.2.2.1 = 0 then ((request_Join.f k t201 t204 t207 bt213.1 bt213.2.1 bt213.2.2.1).bind fun bt238 => (if bt225.2.2.2.1 = 0 then (if bt225.2.2.2.2 = 0 then (if bt238.2.2.2 = 0 then ((depotref00_SameRequest.f k bt225.1 bt225.2.1 bt225.2.2.1 bt238.1 bt238.2.1 bt238.2.2.1).bind fun t249 => (if t249 = true then ((depotlaw24_awake.f k).bind fun t250 => (some t250)) else (some false))) else (some false)) else (some false)) else (some false))) else (if bt225.2.2.2.1 = bt213.2.2.2.1 then ((depotlaw24_feeds.f k a0).bind fun t251 => (if bt225.2.2.2.2 = (wrap64 ((wrap64 (t251 + 1)) + bt213.2.2.2.2)) then ((depotlaw24_awake.f k).bind fun t252 => (some t252)) else (some false))) else (some false))) else (if bt225.2.2.2.1 = t210 then (if bt225.2.2.2.2 = t211 then ((depotlaw24_awake.f k).bind fun t237 => (some t237)) else (some false)) else (some false)))) else (none)) else (none))) = some r := H
 have A3 := Aside0.mk A30
 clear A30
 replace H := Option.bind_eq_some_iff.mp H
 obtain ⟨⟨t213, t216, t219, t222, t223⟩, A40, H⟩ := H
 replace H : (if a0.size + 1 ≤ 9223372036854775807 then (if (a0 ++ (⟨#[10]⟩ : ByteArray)).size + a1.size ≤ 9223372036854775807 then ((request_Read.f k ((a0 ++ (⟨#[10]⟩ : ByteArray)) ++ a1)).bind fun bt225 => (if t210 = 0 then (if t222 = 0 then ((request_Join.f k t201 t204 t207 t213 t216 t219).bind fun bt238 => (if bt225.2.2.2.1 = 0 then (if bt225.2.2.2.2 = 0 then (if bt238.2.2.2 = 0 then ((depotref00_SameRequest.f k bt225.1 bt225.2.1 bt225.2.2.1 bt238.1 bt238.2.1 bt238.2.2.1).bind fun t249 => (if t249 = true then ((depotlaw24_awake.f k).bind fun t250 => (some t250)) else (some false))) else (some false)) else (some false)) else (some false))) else (if bt225.2.2.2.1 = t222 then ((depotlaw24_feeds.f k a0).bind fun t251 => (if bt225.2.2.2.2 = (wrap64 ((wrap64 (t251 + 1)) + t223)) then ((depotlaw24_awake.f k).bind fun t252 => (some t252)) else (some false))) else (some false))) else (if bt225.2.2.2.1 = t210 then (if bt225.2.2.2.2 = t211 then ((depotlaw24_awake.f k).bind fun t237 => (some t237)) else (some false)) else (some false)))) else (none)) else (none)) = some r := H
 have A4 := Aside0.mk A40
 clear A40
 by_cases c5 : a0.size + 1 ≤ 9223372036854775807
 ·rw [if_pos c5] at H
  have c5b0 := eq_true c5
  have c5b1 : decide (a0.size + 1 ≤ 9223372036854775807) = true := decide_eq_true c5
  try have c5b2 : (9223372036854775807 < a0.size + 1) = False := eq_false (Nat.not_lt.2 c5)
  try (have c5b3 := c5b2; simp only [ByteArray.size_append', ByteArray.size_mk', List.size_toArray, List.length_cons, List.length_nil, Nat.reduceAdd] at c5b3)
  by_cases c6 : (a0 ++ (⟨#[10]⟩ : ByteArray)).size + a1.size ≤ 9223372036854775807
  ·rw [if_pos c6] at H
   have c6b0 := eq_true c6
   have c6b1 : decide ((a0 ++ (⟨#[10]⟩ : ByteArray)).size + a1.size ≤ 9223372036854775807) = true := decide_eq_true c6
   try have c6b2 : (9223372036854775807 < (a0 ++ (⟨#[10]⟩ : ByteArray)).size + a1.size) = False := eq_false (Nat.not_lt.2 c6)
   try (have c6b3 := c6b2; simp only [ByteArray.size_append', ByteArray.size_mk', List.size_toArray, List.length_cons, List.length_nil, Nat.reduceAdd] at c6b3)
   replace H := Option.bind_eq_some_iff.mp H
   obtain ⟨⟨t225, t228, t231, t234, t235⟩, A70, H⟩ := H
   replace H : (if t210 = 0 then (if t222 = 0 then ((request_Join.f k t201 t204 t207 t213 t216 t219).bind fun bt238 => (if t234 = 0 then (if t235 = 0 then (if bt238.2.2.2 = 0 then ((depotref00_SameRequest.f k t225 t228 t231 bt238.1 bt238.2.1 bt238.2.2.1).bind fun t249 => (if t249 = true then ((depotlaw24_awake.f k).bind fun t250 => (some t250)) else (some false))) else (some false)) else (some false)) else (some false))) else (if t234 = t222 then ((depotlaw24_feeds.f k a0).bind fun t251 => (if t235 = (wrap64 ((wrap64 (t251 + 1)) + t223)) then ((depotlaw24_awake.f k).bind fun t252 => (some t252)) else (some false))) else (some false))) else (if t234 = t210 then (if t235 = t211 then ((depotlaw24_awake.f k).bind fun t237 => (some t237)) else (some false)) else (some false))) = some r := H
   have A7 := Aside0.mk A70
   clear A70
   by_cases c8 : t210 = 0
   ·rw [if_pos c8] at H
    have c8b0 : (t210 == 0) = true := beq_iff_eq.mpr c8
    have c8b1 : (t210 != 0) = false := bne_eq_false_iff_eq.mpr c8
    clear c8
    by_cases c9 : t222 = 0
    ·rw [if_pos c9] at H
     have c9b0 : (t222 == 0) = true := beq_iff_eq.mpr c9
     have c9b1 : (t222 != 0) = false := bne_eq_false_iff_eq.mpr c9
     clear c9
     replace H := Option.bind_eq_some_iff.mp H
     obtain ⟨⟨t238, t241, t244, t247⟩, A100, H⟩ := H
     replace H : (if t234 = 0 then (if t235 = 0 then (if t247 = 0 then ((depotref00_SameRequest.f k t225 t228 t231 t238 t241 t244).bind fun t249 => (if t249 = true then ((depotlaw24_awake.f k).bind fun t250 => (some t250)) else (some false))) else (some false)) else (some false)) else (some false)) = some r := H
     have A10 := Aside0.mk A100
     clear A100
     by_cases c11 : t234 = 0
     ·rw [if_pos c11] at H
      have c11b0 : (t234 == 0) = true := beq_iff_eq.mpr c11
      have c11b1 : (t234 != 0) = false := bne_eq_false_iff_eq.mpr c11
      clear c11
      by_cases c12 : t235 = 0
      ·rw [if_pos c12] at H
       have c12b0 : (t235 == 0) = true := beq_iff_eq.mpr c12
       have c12b1 : (t235 != 0) = false := bne_eq_false_iff_eq.mpr c12
       clear c12
       by_cases c13 : t247 = 0
       ·rw [if_pos c13] at H
        have c13b0 : (t247 == 0) = true := beq_iff_eq.mpr c13
        have c13b1 : (t247 != 0) = false := bne_eq_false_iff_eq.mpr c13
        clear c13
        replace H := Option.bind_eq_some_iff.mp H
        obtain ⟨t249, A140, H⟩ := H
        replace H : (if t249 = true then ((depotlaw24_awake.f k).bind fun t250 => (some t250)) else (some false)) = some r := H
        have A14 := Aside0.mk A140
        clear A140
        by_cases c15 : t249 = true
        ·subst c15
         have H1 : ((depotlaw24_awake.f k).bind fun t250 => (some t250)) = some r := by rw [if_pos rfl] at H; exact H
         clear H
         have H := H1
         clear H1
         replace H := Option.bind_eq_some_iff.mp H
         obtain ⟨t250, A160, H⟩ := H
         replace H : (some t250) = some r := H
         have A16 := Aside0.mk A160
         clear A160
         obtain rfl := Option.some.inj H
         go_enter Tryd.func7, Tryd.ntmps7
         go_wp2_with (first | ((with_reducible refine gate_callee (f := 19) rfl ?_); refine goesL_ (some 18) rfl rfl Tryd.func19 (by kernel_rfl) rfl #[.string a0] rfl (by (try simp only [List.map_toArray, List.map_cons, List.map_nil]); first | done | rfl | (simp only [List.length_drop, List.length_take]; rfl) | (simp; done)) ?_; (with_reducible refine (request_Read.calls k a0 t201 t204 t207 t210 t211 _ ?side1 A3.out).mono ?_); (case side1 => exact GG.below HG.out (W0 HB.out)); rintro e w17 ⟨v202, v205, v208, rfl, ho0, ho1, ho2, hb⟩; refine ⟨_, rfl, ?_⟩; have n0_ := Aside0.mk (Kd.N_lower (Kd.N_mono (ok' := fun k_ => some k_ ≠ (v205 : Value).ownBlock ∧ some k_ ≠ (v208 : Value).ownBlock) ho0 (fun k_ hk_ => ⟨hk_.2.1, hk_.2.2⟩)) (below_size (W0 HB.out))); have n1_ := Aside0.mk (Kd.R_lower (Kd.R_mono (ok' := fun k_ => True) ho1 (fun _ hk_ => trivial)) (below_size (W0 HB.out))); have n2_ := Aside0.mk (Kd.R_lower (Kd.R_mono (ok' := fun k_ => True) ho2 (fun _ hk_ => trivial)) (below_size (W0 HB.out))); have n3_ := Aside0.mk (below_step (W0 HB.out) hb); clear HB; have HO203 := n0_; have HO206 := n1_; have HO209 := n2_; have HB := n3_; clear n0_ n1_ n2_ n3_; (try clear hb); (try clear hb2); (try clear hk); (try clear hi); (try clear ho0); (try clear ho1); (try clear ho2)) | ((with_reducible refine gate_dst (N := 5) rfl ?_); refine box_event ?hg (N := 5) ?hd (cs := #[.slice none 0 0, .slice none 0 0, .slice none 0 0]) (t := 26) ?hr ?_; (case hd => rfl); (case hg => rfl); (case hr => first | (go_simp; done) | (go_simp; rfl)); intro gb212 hg w18 hbox hb; have n0_ := Aside0.mk (Kd.N_below (Kd.N_elderB (Nq HO203.out) gb212 (Nat.le_of_eq hg.symm)) hb); have n1_ := Aside0.mk (Kd.R_below (Rq HO206.out) hb); have n2_ := Aside0.mk (Kd.R_below (Rq HO209.out) hb); have n3_ := Aside0.mk (below_step (W0 HB.out) hb); have n4_ := Aside0.mk (hbox); have n5_ := Aside0.mk ((by rw [hg]; exact (below_size (W0 HB.out)) : w.heap.size ≤ gb212)); have n6_ := Aside0.mk ((by rw [hg]; exact (below_size (W0 HB.out)) : w.heap.size ≤ gb212)); clear HO203; clear HO206; clear HO209; clear HB; have HO203 := n0_; have HO206 := n1_; have HO209 := n2_; have HB := n3_; have BK212 := n4_; have GW212 := n5_; have GE212 := n6_; clear n0_ n1_ n2_ n3_ n4_ n5_ n6_; clear hb hbox hg; obtain ⟨Ao19, co19, eo19⟩ := Kd.N_slice HO203.out; subst eo19; have hcz20_0 : w18.cell? ⟨gb212, 0, none⟩ = some (.slice none 0 0) := (blk_cell BK212.out 0).trans rfl; have hcz20_1 : w18.cell? ⟨gb212, 1, none⟩ = some (.slice none 0 0) := (blk_cell BK212.out 1).trans rfl; have hcz20_2 : w18.cell? ⟨gb212, 2, none⟩ = some (.slice none 0 0) := (blk_cell BK212.out 2).trans rfl; have hfz20_0 := blk_frozen BK212.out 0; have hfz20_1 := blk_frozen BK212.out 1; have hfz20_2 := blk_frozen BK212.out 2; obtain ⟨Ao21, co21, eo21⟩ := Kd.R_slice HO206.out; subst eo21; obtain ⟨Ao22, co22, eo22⟩ := Kd.R_slice HO209.out; subst eo22) | ((with_reducible refine gate_callee (f := 19) rfl ?_); refine goesL_ (some 24) rfl rfl Tryd.func19 (by kernel_rfl) rfl #[.string a1] rfl (by (try simp only [List.map_toArray, List.map_cons, List.map_nil]); first | done | rfl | (simp only [List.length_drop, List.length_take]; rfl) | (simp; done)) ?_; (with_reducible refine (request_Read.calls k a1 t213 t216 t219 t222 t223 _ ?side1 A4.out).mono ?_); (case side1 => exact GG.below HG.out (W1 HB.out GE212.out)); rintro e w23 ⟨v214, v217, v220, rfl, ho0, ho1, ho2, hb⟩; refine ⟨_, rfl, ?_⟩; have n0_ := Aside0.mk (Kd.N_mono (Kd.N_told (Kd.N_told (Kd.N_told (Kd.N_old (by (with_reducible repeat (first | apply Kd.N_alloc | apply Kd.N_drewN | apply Kd.N_drew)); exact (Kd.N_mono (Kd.N_far (p := ⟨gb212, 2, none⟩) (Kd.N_far (p := ⟨gb212, 1, none⟩) (Kd.N_far (p := ⟨gb212, 0, none⟩) (Kd.N_mono HO203.out (fun k_ hk => (⟨hk, hk.2⟩ : _ ∧ k_ ≠ gb212))) (fun _ hk => hk.2) (.slice Ao19 t201.length co19)) (fun _ hk => hk.2) (.slice Ao21 t204.length co21)) (fun _ hk => hk.2) (.slice Ao22 t207.length co22)) (fun _ h_ => h_.1))) hb) (by first | exact Kd.N_base ho0 | exact Kd.S_base ho0)) (Kd.R_base ho1)) (Kd.R_base ho2)) (fun _ h_ => h_.1)); have n1_ := Aside0.mk (Kd.R_elder' (by (with_reducible repeat (first | apply Kd.R_alloc | apply Kd.R_drewN | apply Kd.R_drew)); exact (Kd.R_mono (Kd.R_far (p := ⟨gb212, 2, none⟩) (Kd.R_far (p := ⟨gb212, 1, none⟩) (Kd.R_far (p := ⟨gb212, 0, none⟩) (Rt HO206.out BK212.out) (fun _ hk => hk.2) (.slice Ao19 t201.length co19)) (fun _ hk => hk.2) (.slice Ao21 t204.length co21)) (fun _ hk => hk.2) (.slice Ao22 t207.length co22)) (fun _ h_ => h_.1))) (Kd.R_base ho1) hb); have n2_ := Aside0.mk (Kd.R_elder' (by (with_reducible repeat (first | apply Kd.R_alloc | apply Kd.R_drewN | apply Kd.R_drew)); exact (Kd.R_mono (Kd.R_far (p := ⟨gb212, 2, none⟩) (Kd.R_far (p := ⟨gb212, 1, none⟩) (Kd.R_far (p := ⟨gb212, 0, none⟩) (Rt HO209.out BK212.out) (fun _ hk => hk.2) (.slice Ao19 t201.length co19)) (fun _ hk => hk.2) (.slice Ao21 t204.length co21)) (fun _ hk => hk.2) (.slice Ao22 t207.length co22)) (fun _ h_ => h_.1))) (Kd.R_base ho2) hb); have n3_ := Aside0.mk (Kd.N_lower (Kd.N_mono (ok' := fun k_ => some k_ ≠ (v217 : Value).ownBlock ∧ some k_ ≠ (v220 : Value).ownBlock ∧ some k_ ≠ (.slice Ao19 t201.length co19 : Value).ownBlock ∧ some k_ ≠ (.slice Ao21 t204.length co21 : Value).ownBlock ∧ some k_ ≠ (.slice Ao22 t207.length co22 : Value).ownBlock ∧ k_ ≠ gb212) ho0 (fun k_ hk_ => ⟨hk_.2.1, hk_.2.2, (Kd.fresh' (Kd.N_lt (by (with_reducible repeat (first | apply Kd.N_alloc | apply Kd.N_drewN | apply Kd.N_drew)); exact (Kd.N_mono (Kd.N_far (p := ⟨gb212, 2, none⟩) (Kd.N_far (p := ⟨gb212, 1, none⟩) (Kd.N_far (p := ⟨gb212, 0, none⟩) (Kd.N_mono HO203.out (fun k_ hk => (⟨hk, hk.2⟩ : _ ∧ k_ ≠ gb212))) (fun _ hk => hk.2) (.slice Ao19 t201.length co19)) (fun _ hk => hk.2) (.slice Ao21 t204.length co21)) (fun _ hk => hk.2) (.slice Ao22 t207.length co22)) (fun _ h_ => h_.1)))) k_ hk_.1), (Kd.fresh' (Kd.R_lt (by (with_reducible repeat (first | apply Kd.R_alloc | apply Kd.R_drewN | apply Kd.R_drew)); exact (Kd.R_mono (Kd.R_far (p := ⟨gb212, 2, none⟩) (Kd.R_far (p := ⟨gb212, 1, none⟩) (Kd.R_far (p := ⟨gb212, 0, none⟩) (Rt HO206.out BK212.out) (fun _ hk => hk.2) (.slice Ao19 t201.length co19)) (fun _ hk => hk.2) (.slice Ao21 t204.length co21)) (fun _ hk => hk.2) (.slice Ao22 t207.length co22)) (fun _ h_ => h_.1)))) k_ hk_.1), (Kd.fresh' (Kd.R_lt (by (with_reducible repeat (first | apply Kd.R_alloc | apply Kd.R_drewN | apply Kd.R_drew)); exact (Kd.R_mono (Kd.R_far (p := ⟨gb212, 2, none⟩) (Kd.R_far (p := ⟨gb212, 1, none⟩) (Kd.R_far (p := ⟨gb212, 0, none⟩) (Rt HO209.out BK212.out) (fun _ hk => hk.2) (.slice Ao19 t201.length co19)) (fun _ hk => hk.2) (.slice Ao21 t204.length co21)) (fun _ hk => hk.2) (.slice Ao22 t207.length co22)) (fun _ h_ => h_.1)))) k_ hk_.1), (Kd.freshB (g := gb212) (o := .cells #[.slice Ao19 t201.length co19, .slice Ao21 t204.length co21, .slice Ao22 t207.length co22] 26 (0, 0)) (by (with_reducible repeat (first | refine blk_drewN ?_ _ | refine blk_drew ?_ | refine blk_alloc ?_ _)); refine blk_put (cs := #[.slice Ao19 t201.length co19, .slice Ao21 t204.length co21, .slice none 0 0]) ?_ 2 _ rfl; (with_reducible repeat (first | refine blk_drewN ?_ _ | refine blk_drew ?_ | refine blk_alloc ?_ _)); refine blk_put (cs := #[.slice Ao19 t201.length co19, .slice none 0 0, .slice none 0 0]) ?_ 1 _ rfl; (with_reducible repeat (first | refine blk_drewN ?_ _ | refine blk_drew ?_ | refine blk_alloc ?_ _)); refine blk_put (cs := #[.slice none 0 0, .slice none 0 0, .slice none 0 0]) ?_ 0 _ rfl; (with_reducible repeat (first | refine blk_drewN ?_ _ | refine blk_drew ?_ | refine blk_alloc ?_ _)); exact BK212.out) k_ hk_.1)⟩)) (below_size (W1 HB.out GE212.out))); have n4_ := Aside0.mk (Kd.R_lower (Kd.R_new' (Kd.R_mono (ok' := fun k_ => True) ho1 (fun _ hk_ => trivial)) (Kd.R_lt (by (with_reducible repeat (first | apply Kd.R_alloc | apply Kd.R_drewN | apply Kd.R_drew)); exact (Kd.R_mono (Kd.R_far (p := ⟨gb212, 2, none⟩) (Kd.R_far (p := ⟨gb212, 1, none⟩) (Kd.R_far (p := ⟨gb212, 0, none⟩) (Rt HO206.out BK212.out) (fun _ hk => hk.2) (.slice Ao19 t201.length co19)) (fun _ hk => hk.2) (.slice Ao21 t204.length co21)) (fun _ hk => hk.2) (.slice Ao22 t207.length co22)) (fun _ h_ => h_.1))))) (below_size (W1 HB.out GE212.out))); have n5_ := Aside0.mk (Kd.R_lower (Kd.R_new' (Kd.R_mono (ok' := fun k_ => True) ho2 (fun _ hk_ => trivial)) (Kd.R_lt (by (with_reducible repeat (first | apply Kd.R_alloc | apply Kd.R_drewN | apply Kd.R_drew)); exact (Kd.R_mono (Kd.R_far (p := ⟨gb212, 2, none⟩) (Kd.R_far (p := ⟨gb212, 1, none⟩) (Kd.R_far (p := ⟨gb212, 0, none⟩) (Rt HO209.out BK212.out) (fun _ hk => hk.2) (.slice Ao19 t201.length co19)) (fun _ hk => hk.2) (.slice Ao21 t204.length co21)) (fun _ hk => hk.2) (.slice Ao22 t207.length co22)) (fun _ h_ => h_.1))))) (below_size (W1 HB.out GE212.out))); have n6_ := Aside0.mk (blk_below (g := gb212) (o := .cells #[.slice Ao19 t201.length co19, .slice Ao21 t204.length co21, .slice Ao22 t207.length co22] 26 (0, 0)) (by (with_reducible repeat (first | refine blk_drewN ?_ _ | refine blk_drew ?_ | refine blk_alloc ?_ _)); refine blk_put (cs := #[.slice Ao19 t201.length co19, .slice Ao21 t204.length co21, .slice none 0 0]) ?_ 2 _ rfl; (with_reducible repeat (first | refine blk_drewN ?_ _ | refine blk_drew ?_ | refine blk_alloc ?_ _)); refine blk_put (cs := #[.slice Ao19 t201.length co19, .slice none 0 0, .slice none 0 0]) ?_ 1 _ rfl; (with_reducible repeat (first | refine blk_drewN ?_ _ | refine blk_drew ?_ | refine blk_alloc ?_ _)); refine blk_put (cs := #[.slice none 0 0, .slice none 0 0, .slice none 0 0]) ?_ 0 _ rfl; (with_reducible repeat (first | refine blk_drewN ?_ _ | refine blk_drew ?_ | refine blk_alloc ?_ _)); exact BK212.out) hb); have n7_ := Aside0.mk (below_step (W1 HB.out GE212.out) hb); clear HO203; clear HO206; clear HO209; clear BK212; clear HB; have HO203 := n0_; have HO206 := n1_; have HO209 := n2_; have HO215 := n3_; have HO218 := n4_; have HO221 := n5_; have BK212 := n6_; have HB := n7_; clear n0_ n1_ n2_ n3_ n4_ n5_ n6_ n7_; (try clear hb); (try clear hb2); (try clear hk); (try clear hi); (try clear ho0); (try clear ho1); (try clear ho2)) | ((with_reducible refine gate_dst (N := 8) rfl ?_); refine box_event ?hg (N := 8) ?hd (cs := #[.slice none 0 0, .slice none 0 0, .slice none 0 0]) (t := 26) ?hr ?_; (case hd => rfl); (case hg => rfl); (case hr => first | (go_simp; done) | (go_simp; rfl)); intro gb224 hg w24 hbox hb; have n0_ := Aside0.mk (Kd.N_below (Kd.N_elderB (Nq HO203.out) gb224 (Nat.le_of_eq hg.symm)) hb); have n1_ := Aside0.mk (Kd.R_below (Rq HO206.out) hb); have n2_ := Aside0.mk (Kd.R_below (Rq HO209.out) hb); have n3_ := Aside0.mk (Kd.N_below (Kd.N_elderB (Nq HO215.out) gb224 (Nat.le_of_eq hg.symm)) hb); have n4_ := Aside0.mk (Kd.R_below (Rq HO218.out) hb); have n5_ := Aside0.mk (Kd.R_below (Rq HO221.out) hb); have n6_ := Aside0.mk (blk_below (g := gb212) (Bq BK212.out) hb); have n7_ := Aside0.mk (below_step (W1 HB.out GE212.out) hb); have n8_ := Aside0.mk (hbox); have n9_ := Aside0.mk ((by rw [hg]; exact (below_size (W1 HB.out GE212.out)) : w.heap.size ≤ gb224)); have n10_ := Aside0.mk ((by rw [hg]; exact (below_size (W1 HB.out GE212.out)) : w.heap.size ≤ gb224)); have n11_ := Aside0.mk ((by rw [hg]; exact Nat.ne_of_lt (blk_lt (g := gb212) (Bq BK212.out)) : gb212 ≠ gb224)); have n12_ := Aside0.mk ((by rw [hg]; exact Nat.ne_of_gt (blk_lt (g := gb212) (Bq BK212.out)) : gb224 ≠ gb212)); clear HO203; clear HO206; clear HO209; clear HO215; clear HO218; clear HO221; clear BK212; clear HB; have HO203 := n0_; have HO206 := n1_; have HO209 := n2_; have HO215 := n3_; have HO218 := n4_; have HO221 := n5_; have BK212 := n6_; have HB := n7_; have BK224 := n8_; have GW224 := n9_; have GE224 := n10_; have NB212_224 := n11_; have NB224_212 := n12_; clear n0_ n1_ n2_ n3_ n4_ n5_ n6_ n7_ n8_ n9_ n10_ n11_ n12_; clear hb hbox hg; obtain ⟨Ao25, co25, eo25⟩ := Kd.N_slice HO215.out; subst eo25; have hnb26 := NB224_212.out; have hnc26 := NB212_224.out; have hcz27_0 : w24.cell? ⟨gb224, 0, none⟩ = some (.slice none 0 0) := (blk_cell BK224.out 0).trans rfl; have hcz27_1 : w24.cell? ⟨gb224, 1, none⟩ = some (.slice none 0 0) := (blk_cell BK224.out 1).trans rfl; have hcz27_2 : w24.cell? ⟨gb224, 2, none⟩ = some (.slice none 0 0) := (blk_cell BK224.out 2).trans rfl; have hfz27_0 := blk_frozen BK224.out 0; have hfz27_1 := blk_frozen BK224.out 1; have hfz27_2 := blk_frozen BK224.out 2; obtain ⟨Ao28, co28, eo28⟩ := Kd.R_slice HO218.out; subst eo28; obtain ⟨Ao29, co29, eo29⟩ := Kd.R_slice HO221.out; subst eo29) | ((with_reducible refine gate_callee (f := 19) rfl ?_); refine goesL_ (some 33) rfl rfl Tryd.func19 (by kernel_rfl) rfl #[.string ((a0 ++ (⟨#[10]⟩ : ByteArray)) ++ a1)] rfl (by (try simp only [List.map_toArray, List.map_cons, List.map_nil]); first | done | rfl | (simp only [List.length_drop, List.length_take]; rfl) | (simp; done)) ?_; (with_reducible refine (request_Read.calls k ((a0 ++ (⟨#[10]⟩ : ByteArray)) ++ a1) t225 t228 t231 t234 t235 _ ?side1 A7.out).mono ?_); (case side1 => exact GG.below HG.out (W2 HB.out GE212.out GE224.out)); rintro e w30 ⟨v226, v229, v232, rfl, ho0, ho1, ho2, hb⟩; refine ⟨_, rfl, ?_⟩; have n0_ := Aside0.mk (Kd.N_mono (Kd.N_told (Kd.N_told (Kd.N_told (Kd.N_old (by (with_reducible repeat (first | apply Kd.N_alloc | apply Kd.N_drewN | apply Kd.N_drew)); exact (Kd.N_mono (Kd.N_far (p := ⟨gb224, 2, none⟩) (Kd.N_far (p := ⟨gb224, 1, none⟩) (Kd.N_far (p := ⟨gb224, 0, none⟩) (Kd.N_mono HO203.out (fun k_ hk => (⟨hk, hk.2⟩ : _ ∧ k_ ≠ gb224))) (fun _ hk => hk.2) (.slice Ao25 t213.length co25)) (fun _ hk => hk.2) (.slice Ao28 t216.length co28)) (fun _ hk => hk.2) (.slice Ao29 t219.length co29)) (fun _ h_ => h_.1))) hb) (by first | exact Kd.N_base ho0 | exact Kd.S_base ho0)) (Kd.R_base ho1)) (Kd.R_base ho2)) (fun _ h_ => h_.1)); have n1_ := Aside0.mk (Kd.R_elder' (by (with_reducible repeat (first | apply Kd.R_alloc | apply Kd.R_drewN | apply Kd.R_drew)); exact (Kd.R_mono (Kd.R_far (p := ⟨gb224, 2, none⟩) (Kd.R_far (p := ⟨gb224, 1, none⟩) (Kd.R_far (p := ⟨gb224, 0, none⟩) (Rt HO206.out BK224.out) (fun _ hk => hk.2) (.slice Ao25 t213.length co25)) (fun _ hk => hk.2) (.slice Ao28 t216.length co28)) (fun _ hk => hk.2) (.slice Ao29 t219.length co29)) (fun _ h_ => h_.1))) (Kd.R_base ho1) hb); have n2_ := Aside0.mk (Kd.R_elder' (by (with_reducible repeat (first | apply Kd.R_alloc | apply Kd.R_drewN | apply Kd.R_drew)); exact (Kd.R_mono (Kd.R_far (p := ⟨gb224, 2, none⟩) (Kd.R_far (p := ⟨gb224, 1, none⟩) (Kd.R_far (p := ⟨gb224, 0, none⟩) (Rt HO209.out BK224.out) (fun _ hk => hk.2) (.slice Ao25 t213.length co25)) (fun _ hk => hk.2) (.slice Ao28 t216.length co28)) (fun _ hk => hk.2) (.slice Ao29 t219.length co29)) (fun _ h_ => h_.1))) (Kd.R_base ho2) hb); have n3_ := Aside0.mk (Kd.N_mono (Kd.N_told (Kd.N_told (Kd.N_told (Kd.N_old (by (with_reducible repeat (first | apply Kd.N_alloc | apply Kd.N_drewN | apply Kd.N_drew)); exact (Kd.N_mono (Kd.N_far (p := ⟨gb224, 2, none⟩) (Kd.N_far (p := ⟨gb224, 1, none⟩) (Kd.N_far (p := ⟨gb224, 0, none⟩) (Kd.N_mono HO215.out (fun k_ hk => (⟨hk, hk.2⟩ : _ ∧ k_ ≠ gb224))) (fun _ hk => hk.2) (.slice Ao25 t213.length co25)) (fun _ hk => hk.2) (.slice Ao28 t216.length co28)) (fun _ hk => hk.2) (.slice Ao29 t219.length co29)) (fun _ h_ => h_.1))) hb) (by first | exact Kd.N_base ho0 | exact Kd.S_base ho0)) (Kd.R_base ho1)) (Kd.R_base ho2)) (fun _ h_ => h_.1)); have n4_ := Aside0.mk (Kd.R_elder' (by (with_reducible repeat (first | apply Kd.R_alloc | apply Kd.R_drewN | apply Kd.R_drew)); exact (Kd.R_mono (Kd.R_far (p := ⟨gb224, 2, none⟩) (Kd.R_far (p := ⟨gb224, 1, none⟩) (Kd.R_far (p := ⟨gb224, 0, none⟩) (Rt HO218.out BK224.out) (fun _ hk => hk.2) (.slice Ao25 t213.length co25)) (fun _ hk => hk.2) (.slice Ao28 t216.length co28)) (fun _ hk => hk.2) (.slice Ao29 t219.length co29)) (fun _ h_ => h_.1))) (Kd.R_base ho1) hb); have n5_ := Aside0.mk (Kd.R_elder' (by (with_reducible repeat (first | apply Kd.R_alloc | apply Kd.R_drewN | apply Kd.R_drew)); exact (Kd.R_mono (Kd.R_far (p := ⟨gb224, 2, none⟩) (Kd.R_far (p := ⟨gb224, 1, none⟩) (Kd.R_far (p := ⟨gb224, 0, none⟩) (Rt HO221.out BK224.out) (fun _ hk => hk.2) (.slice Ao25 t213.length co25)) (fun _ hk => hk.2) (.slice Ao28 t216.length co28)) (fun _ hk => hk.2) (.slice Ao29 t219.length co29)) (fun _ h_ => h_.1))) (Kd.R_base ho2) hb); have n6_ := Aside0.mk (Kd.N_lower (Kd.N_mono (ok' := fun k_ => some k_ ≠ (v229 : Value).ownBlock ∧ some k_ ≠ (v232 : Value).ownBlock ∧ some k_ ≠ (.slice Ao19 t201.length co19 : Value).ownBlock ∧ some k_ ≠ (.slice Ao21 t204.length co21 : Value).ownBlock ∧ some k_ ≠ (.slice Ao22 t207.length co22 : Value).ownBlock ∧ some k_ ≠ (.slice Ao25 t213.length co25 : Value).ownBlock ∧ some k_ ≠ (.slice Ao28 t216.length co28 : Value).ownBlock ∧ some k_ ≠ (.slice Ao29 t219.length co29 : Value).ownBlock ∧ k_ ≠ gb212 ∧ k_ ≠ gb224) ho0 (fun k_ hk_ => ⟨hk_.2.1, hk_.2.2, (Kd.fresh' (Kd.N_lt (by (with_reducible repeat (first | apply Kd.N_alloc | apply Kd.N_drewN | apply Kd.N_drew)); exact (Kd.N_mono (Kd.N_far (p := ⟨gb224, 2, none⟩) (Kd.N_far (p := ⟨gb224, 1, none⟩) (Kd.N_far (p := ⟨gb224, 0, none⟩) (Kd.N_mono HO203.out (fun k_ hk => (⟨hk, hk.2⟩ : _ ∧ k_ ≠ gb224))) (fun _ hk => hk.2) (.slice Ao25 t213.length co25)) (fun _ hk => hk.2) (.slice Ao28 t216.length co28)) (fun _ hk => hk.2) (.slice Ao29 t219.length co29)) (fun _ h_ => h_.1)))) k_ hk_.1), (Kd.fresh' (Kd.R_lt (by (with_reducible repeat (first | apply Kd.R_alloc | apply Kd.R_drewN | apply Kd.R_drew)); exact (Kd.R_mono (Kd.R_far (p := ⟨gb224, 2, none⟩) (Kd.R_far (p := ⟨gb224, 1, none⟩) (Kd.R_far (p := ⟨gb224, 0, none⟩) (Rt HO206.out BK224.out) (fun _ hk => hk.2) (.slice Ao25 t213.length co25)) (fun _ hk => hk.2) (.slice Ao28 t216.length co28)) (fun _ hk => hk.2) (.slice Ao29 t219.length co29)) (fun _ h_ => h_.1)))) k_ hk_.1), (Kd.fresh' (Kd.R_lt (by (with_reducible repeat (first | apply Kd.R_alloc | apply Kd.R_drewN | apply Kd.R_drew)); exact (Kd.R_mono (Kd.R_far (p := ⟨gb224, 2, none⟩) (Kd.R_far (p := ⟨gb224, 1, none⟩) (Kd.R_far (p := ⟨gb224, 0, none⟩) (Rt HO209.out BK224.out) (fun _ hk => hk.2) (.slice Ao25 t213.length co25)) (fun _ hk => hk.2) (.slice Ao28 t216.length co28)) (fun _ hk => hk.2) (.slice Ao29 t219.length co29)) (fun _ h_ => h_.1)))) k_ hk_.1), (Kd.fresh' (Kd.N_lt (by (with_reducible repeat (first | apply Kd.N_alloc | apply Kd.N_drewN | apply Kd.N_drew)); exact (Kd.N_mono (Kd.N_far (p := ⟨gb224, 2, none⟩) (Kd.N_far (p := ⟨gb224, 1, none⟩) (Kd.N_far (p := ⟨gb224, 0, none⟩) (Kd.N_mono HO215.out (fun k_ hk => (⟨hk, hk.2⟩ : _ ∧ k_ ≠ gb224))) (fun _ hk => hk.2) (.slice Ao25 t213.length co25)) (fun _ hk => hk.2) (.slice Ao28 t216.length co28)) (fun _ hk => hk.2) (.slice Ao29 t219.length co29)) (fun _ h_ => h_.1)))) k_ hk_.1), (Kd.fresh' (Kd.R_lt (by (with_reducible repeat (first | apply Kd.R_alloc | apply Kd.R_drewN | apply Kd.R_drew)); exact (Kd.R_mono (Kd.R_far (p := ⟨gb224, 2, none⟩) (Kd.R_far (p := ⟨gb224, 1, none⟩) (Kd.R_far (p := ⟨gb224, 0, none⟩) (Rt HO218.out BK224.out) (fun _ hk => hk.2) (.slice Ao25 t213.length co25)) (fun _ hk => hk.2) (.slice Ao28 t216.length co28)) (fun _ hk => hk.2) (.slice Ao29 t219.length co29)) (fun _ h_ => h_.1)))) k_ hk_.1), (Kd.fresh' (Kd.R_lt (by (with_reducible repeat (first | apply Kd.R_alloc | apply Kd.R_drewN | apply Kd.R_drew)); exact (Kd.R_mono (Kd.R_far (p := ⟨gb224, 2, none⟩) (Kd.R_far (p := ⟨gb224, 1, none⟩) (Kd.R_far (p := ⟨gb224, 0, none⟩) (Rt HO221.out BK224.out) (fun _ hk => hk.2) (.slice Ao25 t213.length co25)) (fun _ hk => hk.2) (.slice Ao28 t216.length co28)) (fun _ hk => hk.2) (.slice Ao29 t219.length co29)) (fun _ h_ => h_.1)))) k_ hk_.1), (Kd.freshB (g := gb212) (o := .cells #[.slice Ao19 t201.length co19, .slice Ao21 t204.length co21, .slice Ao22 t207.length co22] 26 (0, 0)) (by (with_reducible repeat (first | refine blk_drewN ?_ _ | refine blk_drew ?_ | refine blk_alloc ?_ _)); refine blk_far ?_ NB212_224.out _; (with_reducible repeat (first | refine blk_drewN ?_ _ | refine blk_drew ?_ | refine blk_alloc ?_ _)); refine blk_far ?_ NB212_224.out _; (with_reducible repeat (first | refine blk_drewN ?_ _ | refine blk_drew ?_ | refine blk_alloc ?_ _)); refine blk_far ?_ NB212_224.out _; (with_reducible repeat (first | refine blk_drewN ?_ _ | refine blk_drew ?_ | refine blk_alloc ?_ _)); exact BK212.out) k_ hk_.1), (Kd.freshB (g := gb224) (o := .cells #[.slice Ao25 t213.length co25, .slice Ao28 t216.length co28, .slice Ao29 t219.length co29] 26 (0, 0)) (by (with_reducible repeat (first | refine blk_drewN ?_ _ | refine blk_drew ?_ | refine blk_alloc ?_ _)); refine blk_put (cs := #[.slice Ao25 t213.length co25, .slice Ao28 t216.length co28, .slice none 0 0]) ?_ 2 _ rfl; (with_reducible repeat (first | refine blk_drewN ?_ _ | refine blk_drew ?_ | refine blk_alloc ?_ _)); refine blk_put (cs := #[.slice Ao25 t213.length co25, .slice none 0 0, .slice none 0 0]) ?_ 1 _ rfl; (with_reducible repeat (first | refine blk_drewN ?_ _ | refine blk_drew ?_ | refine blk_alloc ?_ _)); refine blk_put (cs := #[.slice none 0 0, .slice none 0 0, .slice none 0 0]) ?_ 0 _ rfl; (with_reducible repeat (first | refine blk_drewN ?_ _ | refine blk_drew ?_ | refine blk_alloc ?_ _)); exact BK224.out) k_ hk_.1)⟩)) (below_size (W2 HB.out GE212.out GE224.out))); have n7_ := Aside0.mk (Kd.R_lower (Kd.R_new' (Kd.R_new' (Kd.R_mono (ok' := fun k_ => True) ho1 (fun _ hk_ => trivial)) (Kd.R_lt (by (with_reducible repeat (first | apply Kd.R_alloc | apply Kd.R_drewN | apply Kd.R_drew)); exact (Kd.R_mono (Kd.R_far (p := ⟨gb224, 2, none⟩) (Kd.R_far (p := ⟨gb224, 1, none⟩) (Kd.R_far (p := ⟨gb224, 0, none⟩) (Rt HO206.out BK224.out) (fun _ hk => hk.2) (.slice Ao25 t213.length co25)) (fun _ hk => hk.2) (.slice Ao28 t216.length co28)) (fun _ hk => hk.2) (.slice Ao29 t219.length co29)) (fun _ h_ => h_.1))))) (Kd.R_lt (by (with_reducible repeat (first | apply Kd.R_alloc | apply Kd.R_drewN | apply Kd.R_drew)); exact (Kd.R_mono (Kd.R_far (p := ⟨gb224, 2, none⟩) (Kd.R_far (p := ⟨gb224, 1, none⟩) (Kd.R_far (p := ⟨gb224, 0, none⟩) (Rt HO218.out BK224.out) (fun _ hk => hk.2) (.slice Ao25 t213.length co25)) (fun _ hk => hk.2) (.slice Ao28 t216.length co28)) (fun _ hk => hk.2) (.slice Ao29 t219.length co29)) (fun _ h_ => h_.1))))) (below_size (W2 HB.out GE212.out GE224.out))); have n8_ := Aside0.mk (Kd.R_lower (Kd.R_new' (Kd.R_new' (Kd.R_mono (ok' := fun k_ => True) ho2 (fun _ hk_ => trivial)) (Kd.R_lt (by (with_reducible repeat (first | apply Kd.R_alloc | apply Kd.R_drewN | apply Kd.R_drew)); exact (Kd.R_mono (Kd.R_far (p := ⟨gb224, 2, none⟩) (Kd.R_far (p := ⟨gb224, 1, none⟩) (Kd.R_far (p := ⟨gb224, 0, none⟩) (Rt HO209.out BK224.out) (fun _ hk => hk.2) (.slice Ao25 t213.length co25)) (fun _ hk => hk.2) (.slice Ao28 t216.length co28)) (fun _ hk => hk.2) (.slice Ao29 t219.length co29)) (fun _ h_ => h_.1))))) (Kd.R_lt (by (with_reducible repeat (first | apply Kd.R_alloc | apply Kd.R_drewN | apply Kd.R_drew)); exact (Kd.R_mono (Kd.R_far (p := ⟨gb224, 2, none⟩) (Kd.R_far (p := ⟨gb224, 1, none⟩) (Kd.R_far (p := ⟨gb224, 0, none⟩) (Rt HO221.out BK224.out) (fun _ hk => hk.2) (.slice Ao25 t213.length co25)) (fun _ hk => hk.2) (.slice Ao28 t216.length co28)) (fun _ hk => hk.2) (.slice Ao29 t219.length co29)) (fun _ h_ => h_.1))))) (below_size (W2 HB.out GE212.out GE224.out))); have n9_ := Aside0.mk (blk_below (g := gb212) (o := .cells #[.slice Ao19 t201.length co19, .slice Ao21 t204.length co21, .slice Ao22 t207.length co22] 26 (0, 0)) (by (with_reducible repeat (first | refine blk_drewN ?_ _ | refine blk_drew ?_ | refine blk_alloc ?_ _)); refine blk_far ?_ NB212_224.out _; (with_reducible repeat (first | refine blk_drewN ?_ _ | refine blk_drew ?_ | refine blk_alloc ?_ _)); refine blk_far ?_ NB212_224.out _; (with_reducible repeat (first | refine blk_drewN ?_ _ | refine blk_drew ?_ | refine blk_alloc ?_ _)); refine blk_far ?_ NB212_224.out _; (with_reducible repeat (first | refine blk_drewN ?_ _ | refine blk_drew ?_ | refine blk_alloc ?_ _)); exact BK212.out) hb); have n10_ := Aside0.mk (blk_below (g := gb224) (o := .cells #[.slice Ao25 t213.length co25, .slice Ao28 t216.length co28, .slice Ao29 t219.length co29] 26 (0, 0)) (by (with_reducible repeat (first | refine blk_drewN ?_ _ | refine blk_drew ?_ | refine blk_alloc ?_ _)); refine blk_put (cs := #[.slice Ao25 t213.length co25, .slice Ao28 t216.length co28, .slice none 0 0]) ?_ 2 _ rfl; (with_reducible repeat (first | refine blk_drewN ?_ _ | refine blk_drew ?_ | refine blk_alloc ?_ _)); refine blk_put (cs := #[.slice Ao25 t213.length co25, .slice none 0 0, .slice none 0 0]) ?_ 1 _ rfl; (with_reducible repeat (first | refine blk_drewN ?_ _ | refine blk_drew ?_ | refine blk_alloc ?_ _)); refine blk_put (cs := #[.slice none 0 0, .slice none 0 0, .slice none 0 0]) ?_ 0 _ rfl; (with_reducible repeat (first | refine blk_drewN ?_ _ | refine blk_drew ?_ | refine blk_alloc ?_ _)); exact BK224.out) hb); have n11_ := Aside0.mk (below_step (W2 HB.out GE212.out GE224.out) hb); clear HO203; clear HO206; clear HO209; clear HO215; clear HO218; clear HO221; clear BK212; clear BK224; clear HB; have HO203 := n0_; have HO206 := n1_; have HO209 := n2_; have HO215 := n3_; have HO218 := n4_; have HO221 := n5_; have HO227 := n6_; have HO230 := n7_; have HO233 := n8_; have BK212 := n9_; have BK224 := n10_; have HB := n11_; clear n0_ n1_ n2_ n3_ n4_ n5_ n6_ n7_ n8_ n9_ n10_ n11_; (try clear hb); (try clear hb2); (try clear hk); (try clear hi); (try clear ho0); (try clear ho1); (try clear ho2)) | ((with_reducible refine gate_dst (N := 11) rfl ?_); refine box_event ?hg (N := 11) ?hd (cs := #[.slice none 0 0, .slice none 0 0, .slice none 0 0]) (t := 26) ?hr ?_; (case hd => rfl); (case hg => rfl); (case hr => first | (go_simp; done) | (go_simp; rfl)); intro gb236 hg w31 hbox hb; have n0_ := Aside0.mk (Kd.N_below (Kd.N_elderB (Nq HO203.out) gb236 (Nat.le_of_eq hg.symm)) hb); have n1_ := Aside0.mk (Kd.R_below (Rq HO206.out) hb); have n2_ := Aside0.mk (Kd.R_below (Rq HO209.out) hb); have n3_ := Aside0.mk (Kd.N_below (Kd.N_elderB (Nq HO215.out) gb236 (Nat.le_of_eq hg.symm)) hb); have n4_ := Aside0.mk (Kd.R_below (Rq HO218.out) hb); have n5_ := Aside0.mk (Kd.R_below (Rq HO221.out) hb); have n6_ := Aside0.mk (Kd.N_below (Kd.N_elderB (Nq HO227.out) gb236 (Nat.le_of_eq hg.symm)) hb); have n7_ := Aside0.mk (Kd.R_below (Rq HO230.out) hb); have n8_ := Aside0.mk (Kd.R_below (Rq HO233.out) hb); have n9_ := Aside0.mk (blk_below (g := gb212) (Bq BK212.out) hb); have n10_ := Aside0.mk (blk_below (g := gb224) (Bq BK224.out) hb); have n11_ := Aside0.mk (below_step (W2 HB.out GE212.out GE224.out) hb); have n12_ := Aside0.mk (hbox); have n13_ := Aside0.mk ((by rw [hg]; exact (below_size (W2 HB.out GE212.out GE224.out)) : w.heap.size ≤ gb236)); have n14_ := Aside0.mk ((by rw [hg]; exact (below_size (W2 HB.out GE212.out GE224.out)) : w.heap.size ≤ gb236)); have n15_ := Aside0.mk ((by rw [hg]; exact Nat.ne_of_lt (blk_lt (g := gb212) (Bq BK212.out)) : gb212 ≠ gb236)); have n16_ := Aside0.mk ((by rw [hg]; exact Nat.ne_of_gt (blk_lt (g := gb212) (Bq BK212.out)) : gb236 ≠ gb212)); have n17_ := Aside0.mk ((by rw [hg]; exact Nat.ne_of_lt (blk_lt (g := gb224) (Bq BK224.out)) : gb224 ≠ gb236)); have n18_ := Aside0.mk ((by rw [hg]; exact Nat.ne_of_gt (blk_lt (g := gb224) (Bq BK224.out)) : gb236 ≠ gb224)); clear HO203; clear HO206; clear HO209; clear HO215; clear HO218; clear HO221; clear HO227; clear HO230; clear HO233; clear BK212; clear BK224; clear HB; have HO203 := n0_; have HO206 := n1_; have HO209 := n2_; have HO215 := n3_; have HO218 := n4_; have HO221 := n5_; have HO227 := n6_; have HO230 := n7_; have HO233 := n8_; have BK212 := n9_; have BK224 := n10_; have HB := n11_; have BK236 := n12_; have GW236 := n13_; have GE236 := n14_; have NB212_236 := n15_; have NB236_212 := n16_; have NB224_236 := n17_; have NB236_224 := n18_; clear n0_ n1_ n2_ n3_ n4_ n5_ n6_ n7_ n8_ n9_ n10_ n11_ n12_ n13_ n14_ n15_ n16_ n17_ n18_; clear hb hbox hg; obtain ⟨Ao32, co32, eo32⟩ := Kd.N_slice HO227.out; subst eo32; have hnb33 := NB236_212.out; have hnc33 := NB212_236.out; have hnb34 := NB236_224.out; have hnc34 := NB224_236.out; have hcz35_0 : w31.cell? ⟨gb236, 0, none⟩ = some (.slice none 0 0) := (blk_cell BK236.out 0).trans rfl; have hcz35_1 : w31.cell? ⟨gb236, 1, none⟩ = some (.slice none 0 0) := (blk_cell BK236.out 1).trans rfl; have hcz35_2 : w31.cell? ⟨gb236, 2, none⟩ = some (.slice none 0 0) := (blk_cell BK236.out 2).trans rfl; have hfz35_0 := blk_frozen BK236.out 0; have hfz35_1 := blk_frozen BK236.out 1; have hfz35_2 := blk_frozen BK236.out 2; obtain ⟨Ao36, co36, eo36⟩ := Kd.R_slice HO230.out; subst eo36; obtain ⟨Ao37, co37, eo37⟩ := Kd.R_slice HO233.out; subst eo37; have hcz38_0 : w31.cell? ⟨gb212, 0, none⟩ = some (.slice Ao19 t201.length co19) := (blk_cell BK212.out 0).trans rfl; have hcz38_1 : w31.cell? ⟨gb212, 1, none⟩ = some (.slice Ao21 t204.length co21) := (blk_cell BK212.out 1).trans rfl; have hcz38_2 : w31.cell? ⟨gb212, 2, none⟩ = some (.slice Ao22 t207.length co22) := (blk_cell BK212.out 2).trans rfl; have hfz38_0 := blk_frozen BK212.out 0; have hfz38_1 := blk_frozen BK212.out 1; have hfz38_2 := blk_frozen BK212.out 2; have hcz39_0 : w31.cell? ⟨gb224, 0, none⟩ = some (.slice Ao25 t213.length co25) := (blk_cell BK224.out 0).trans rfl; have hcz39_1 : w31.cell? ⟨gb224, 1, none⟩ = some (.slice Ao28 t216.length co28) := (blk_cell BK224.out 1).trans rfl; have hcz39_2 : w31.cell? ⟨gb224, 2, none⟩ = some (.slice Ao29 t219.length co29) := (blk_cell BK224.out 2).trans rfl; have hfz39_0 := blk_frozen BK224.out 0; have hfz39_1 := blk_frozen BK224.out 1; have hfz39_2 := blk_frozen BK224.out 2) | ((with_reducible refine gate_callee (f := 14) rfl ?_); refine goesL_ (some 70) rfl rfl Tryd.func14 (by kernel_rfl) rfl #[.agg #[.slice Ao19 t201.length co19, .slice Ao21 t204.length co21, .slice Ao22 t207.length co22], .agg #[.slice Ao25 t213.length co25, .slice Ao28 t216.length co28, .slice Ao29 t219.length co29]] rfl (by (try simp only [List.map_toArray, List.map_cons, List.map_nil]); first | done | rfl | (simp only [List.length_drop, List.length_take]; rfl) | (simp; done)) ?_; (with_reducible refine (request_Join.calls k _ _ t201 _ _ t204 _ _ t207 _ _ t213 _ _ t216 _ _ t219 t238 t241 t244 t247 _ ?side1 ?side2 ?side3 ?side4 ?side5 ?side6 ?side7 ?side8 ?side9 ?side10 ?side11 ?side12 ?side13 A10.out).mono ?_); (case side1 => refine (Kd.N_reads' (e := 23) (base := w.heap.size) (ok := fun k_ => ((((((((((some k_ ≠ (.slice Ao21 t204.length co21 : Value).ownBlock ∧ some k_ ≠ (.slice Ao22 t207.length co22 : Value).ownBlock) ∧ k_ ≠ gb212) ∧ some k_ ≠ (.slice Ao25 t213.length co25 : Value).ownBlock) ∧ some k_ ≠ (.slice Ao28 t216.length co28 : Value).ownBlock) ∧ some k_ ≠ (.slice Ao29 t219.length co29 : Value).ownBlock) ∧ k_ ≠ gb224) ∧ some k_ ≠ (.slice Ao32 t225.length co32 : Value).ownBlock) ∧ some k_ ≠ (.slice Ao36 t228.length co36 : Value).ownBlock) ∧ some k_ ≠ (.slice Ao37 t231.length co37 : Value).ownBlock) ∧ k_ ≠ gb236)) (n := t201.length) (c := co19) ?_).2.2; exact (by (with_reducible repeat (first | apply Kd.N_alloc | apply Kd.N_drewN | apply Kd.N_drew)); exact (Kd.N_mono (Kd.N_far (p := ⟨gb236, 2, none⟩) (Kd.N_far (p := ⟨gb236, 1, none⟩) (Kd.N_far (p := ⟨gb236, 0, none⟩) (Kd.N_mono HO203.out (fun k_ hk => (⟨hk, hk.2⟩ : _ ∧ k_ ≠ gb236))) (fun _ hk => hk.2) (.slice Ao32 t225.length co32)) (fun _ hk => hk.2) (.slice Ao36 t228.length co36)) (fun _ hk => hk.2) (.slice Ao37 t231.length co37)) (fun _ h_ => h_.1)))); (case side2 => exact (Kd.N_reads' HO203.out).2.1); (case side3 => refine (Kd.R_reads' (e := 46) (base := w.heap.size) (ok := fun k_ => ((True ∧ some k_ ≠ (.slice Ao28 t216.length co28 : Value).ownBlock) ∧ some k_ ≠ (.slice Ao36 t228.length co36 : Value).ownBlock)) (n := t204.length) (c := co21) ?_).2.2; exact (by (with_reducible repeat (first | apply Kd.R_alloc | apply Kd.R_drewN | apply Kd.R_drew)); exact (Kd.R_mono (Kd.R_far (p := ⟨gb236, 2, none⟩) (Kd.R_far (p := ⟨gb236, 1, none⟩) (Kd.R_far (p := ⟨gb236, 0, none⟩) (Rt HO206.out BK236.out) (fun _ hk => hk.2) (.slice Ao32 t225.length co32)) (fun _ hk => hk.2) (.slice Ao36 t228.length co36)) (fun _ hk => hk.2) (.slice Ao37 t231.length co37)) (fun _ h_ => h_.1)))); (case side4 => exact (Kd.R_reads' HO206.out).2.1); (case side5 => refine (Kd.R_reads' (e := 48) (base := w.heap.size) (ok := fun k_ => ((True ∧ some k_ ≠ (.slice Ao29 t219.length co29 : Value).ownBlock) ∧ some k_ ≠ (.slice Ao37 t231.length co37 : Value).ownBlock)) (n := t207.length) (c := co22) ?_).2.2; exact (by (with_reducible repeat (first | apply Kd.R_alloc | apply Kd.R_drewN | apply Kd.R_drew)); exact (Kd.R_mono (Kd.R_far (p := ⟨gb236, 2, none⟩) (Kd.R_far (p := ⟨gb236, 1, none⟩) (Kd.R_far (p := ⟨gb236, 0, none⟩) (Rt HO209.out BK236.out) (fun _ hk => hk.2) (.slice Ao32 t225.length co32)) (fun _ hk => hk.2) (.slice Ao36 t228.length co36)) (fun _ hk => hk.2) (.slice Ao37 t231.length co37)) (fun _ h_ => h_.1)))); (case side6 => exact (Kd.R_reads' HO209.out).2.1); (case side7 => refine (Kd.N_reads' (e := 23) (base := w.heap.size) (ok := fun k_ => ((((((some k_ ≠ (.slice Ao28 t216.length co28 : Value).ownBlock ∧ (some k_ ≠ (.slice Ao29 t219.length co29 : Value).ownBlock ∧ (some k_ ≠ (.slice Ao19 t201.length co19 : Value).ownBlock ∧ (some k_ ≠ (.slice Ao21 t204.length co21 : Value).ownBlock ∧ (some k_ ≠ (.slice Ao22 t207.length co22 : Value).ownBlock ∧ k_ ≠ gb212))))) ∧ k_ ≠ gb224) ∧ some k_ ≠ (.slice Ao32 t225.length co32 : Value).ownBlock) ∧ some k_ ≠ (.slice Ao36 t228.length co36 : Value).ownBlock) ∧ some k_ ≠ (.slice Ao37 t231.length co37 : Value).ownBlock) ∧ k_ ≠ gb236)) (n := t213.length) (c := co25) ?_).2.2; exact (by (with_reducible repeat (first | apply Kd.N_alloc | apply Kd.N_drewN | apply Kd.N_drew)); exact (Kd.N_mono (Kd.N_far (p := ⟨gb236, 2, none⟩) (Kd.N_far (p := ⟨gb236, 1, none⟩) (Kd.N_far (p := ⟨gb236, 0, none⟩) (Kd.N_mono HO215.out (fun k_ hk => (⟨hk, hk.2⟩ : _ ∧ k_ ≠ gb236))) (fun _ hk => hk.2) (.slice Ao32 t225.length co32)) (fun _ hk => hk.2) (.slice Ao36 t228.length co36)) (fun _ hk => hk.2) (.slice Ao37 t231.length co37)) (fun _ h_ => h_.1)))); (case side8 => exact (Kd.N_reads' HO215.out).2.1); (case side9 => refine (Kd.R_reads' (e := 46) (base := w.heap.size) (ok := fun k_ => ((True ∧ some k_ ≠ (.slice Ao21 t204.length co21 : Value).ownBlock) ∧ some k_ ≠ (.slice Ao36 t228.length co36 : Value).ownBlock)) (n := t216.length) (c := co28) ?_).2.2; exact (by (with_reducible repeat (first | apply Kd.R_alloc | apply Kd.R_drewN | apply Kd.R_drew)); exact (Kd.R_mono (Kd.R_far (p := ⟨gb236, 2, none⟩) (Kd.R_far (p := ⟨gb236, 1, none⟩) (Kd.R_far (p := ⟨gb236, 0, none⟩) (Rt HO218.out BK236.out) (fun _ hk => hk.2) (.slice Ao32 t225.length co32)) (fun _ hk => hk.2) (.slice Ao36 t228.length co36)) (fun _ hk => hk.2) (.slice Ao37 t231.length co37)) (fun _ h_ => h_.1)))); (case side10 => exact (Kd.R_reads' HO218.out).2.1); (case side11 => refine (Kd.R_reads' (e := 48) (base := w.heap.size) (ok := fun k_ => ((True ∧ some k_ ≠ (.slice Ao22 t207.length co22 : Value).ownBlock) ∧ some k_ ≠ (.slice Ao37 t231.length co37 : Value).ownBlock)) (n := t219.length) (c := co29) ?_).2.2; exact (by (with_reducible repeat (first | apply Kd.R_alloc | apply Kd.R_drewN | apply Kd.R_drew)); exact (Kd.R_mono (Kd.R_far (p := ⟨gb236, 2, none⟩) (Kd.R_far (p := ⟨gb236, 1, none⟩) (Kd.R_far (p := ⟨gb236, 0, none⟩) (Rt HO221.out BK236.out) (fun _ hk => hk.2) (.slice Ao32 t225.length co32)) (fun _ hk => hk.2) (.slice Ao36 t228.length co36)) (fun _ hk => hk.2) (.slice Ao37 t231.length co37)) (fun _ h_ => h_.1)))); (case side12 => exact (Kd.R_reads' HO221.out).2.1); (case side13 => exact GG.below HG.out (W3 HB.out GE212.out GE224.out GE236.out)); rintro e w40 ⟨v239, v242, v245, rfl, ho0, ho1, ho2, hb⟩; refine ⟨_, rfl, ?_⟩; have n0_ := Aside0.mk (Kd.N_mono (Kd.N_told (Kd.N_told (Kd.N_told (Kd.N_old (by (with_reducible repeat (first | apply Kd.N_alloc | apply Kd.N_drewN | apply Kd.N_drew)); exact (Kd.N_mono (Kd.N_far (p := ⟨gb236, 2, none⟩) (Kd.N_far (p := ⟨gb236, 1, none⟩) (Kd.N_far (p := ⟨gb236, 0, none⟩) (Kd.N_mono HO203.out (fun k_ hk => (⟨hk, hk.2⟩ : _ ∧ k_ ≠ gb236))) (fun _ hk => hk.2) (.slice Ao32 t225.length co32)) (fun _ hk => hk.2) (.slice Ao36 t228.length co36)) (fun _ hk => hk.2) (.slice Ao37 t231.length co37)) (fun _ h_ => h_.1))) hb) (by first | exact Kd.N_base ho0 | exact Kd.S_base ho0)) (Kd.R_base ho1)) (Kd.R_base ho2)) (fun _ h_ => h_.1)); have n1_ := Aside0.mk (Kd.R_elder' (by (with_reducible repeat (first | apply Kd.R_alloc | apply Kd.R_drewN | apply Kd.R_drew)); exact (Kd.R_mono (Kd.R_far (p := ⟨gb236, 2, none⟩) (Kd.R_far (p := ⟨gb236, 1, none⟩) (Kd.R_far (p := ⟨gb236, 0, none⟩) (Rt HO206.out BK236.out) (fun _ hk => hk.2) (.slice Ao32 t225.length co32)) (fun _ hk => hk.2) (.slice Ao36 t228.length co36)) (fun _ hk => hk.2) (.slice Ao37 t231.length co37)) (fun _ h_ => h_.1))) (Kd.R_base ho1) hb); have n2_ := Aside0.mk (Kd.R_elder' (by (with_reducible repeat (first | apply Kd.R_alloc | apply Kd.R_drewN | apply Kd.R_drew)); exact (Kd.R_mono (Kd.R_far (p := ⟨gb236, 2, none⟩) (Kd.R_far (p := ⟨gb236, 1, none⟩) (Kd.R_far (p := ⟨gb236, 0, none⟩) (Rt HO209.out BK236.out) (fun _ hk => hk.2) (.slice Ao32 t225.length co32)) (fun _ hk => hk.2) (.slice Ao36 t228.length co36)) (fun _ hk => hk.2) (.slice Ao37 t231.length co37)) (fun _ h_ => h_.1))) (Kd.R_base ho2) hb); have n3_ := Aside0.mk (Kd.N_mono (Kd.N_told (Kd.N_told (Kd.N_told (Kd.N_old (by (with_reducible repeat (first | apply Kd.N_alloc | apply Kd.N_drewN | apply Kd.N_drew)); exact (Kd.N_mono (Kd.N_far (p := ⟨gb236, 2, none⟩) (Kd.N_far (p := ⟨gb236, 1, none⟩) (Kd.N_far (p := ⟨gb236, 0, none⟩) (Kd.N_mono HO215.out (fun k_ hk => (⟨hk, hk.2⟩ : _ ∧ k_ ≠ gb236))) (fun _ hk => hk.2) (.slice Ao32 t225.length co32)) (fun _ hk => hk.2) (.slice Ao36 t228.length co36)) (fun _ hk => hk.2) (.slice Ao37 t231.length co37)) (fun _ h_ => h_.1))) hb) (by first | exact Kd.N_base ho0 | exact Kd.S_base ho0)) (Kd.R_base ho1)) (Kd.R_base ho2)) (fun _ h_ => h_.1)); have n4_ := Aside0.mk (Kd.R_elder' (by (with_reducible repeat (first | apply Kd.R_alloc | apply Kd.R_drewN | apply Kd.R_drew)); exact (Kd.R_mono (Kd.R_far (p := ⟨gb236, 2, none⟩) (Kd.R_far (p := ⟨gb236, 1, none⟩) (Kd.R_far (p := ⟨gb236, 0, none⟩) (Rt HO218.out BK236.out) (fun _ hk => hk.2) (.slice Ao32 t225.length co32)) (fun _ hk => hk.2) (.slice Ao36 t228.length co36)) (fun _ hk => hk.2) (.slice Ao37 t231.length co37)) (fun _ h_ => h_.1))) (Kd.R_base ho1) hb); have n5_ := Aside0.mk (Kd.R_elder' (by (with_reducible repeat (first | apply Kd.R_alloc | apply Kd.R_drewN | apply Kd.R_drew)); exact (Kd.R_mono (Kd.R_far (p := ⟨gb236, 2, none⟩) (Kd.R_far (p := ⟨gb236, 1, none⟩) (Kd.R_far (p := ⟨gb236, 0, none⟩) (Rt HO221.out BK236.out) (fun _ hk => hk.2) (.slice Ao32 t225.length co32)) (fun _ hk => hk.2) (.slice Ao36 t228.length co36)) (fun _ hk => hk.2) (.slice Ao37 t231.length co37)) (fun _ h_ => h_.1))) (Kd.R_base ho2) hb); have n6_ := Aside0.mk (Kd.N_mono (Kd.N_told (Kd.N_told (Kd.N_told (Kd.N_old (by (with_reducible repeat (first | apply Kd.N_alloc | apply Kd.N_drewN | apply Kd.N_drew)); exact (Kd.N_mono (Kd.N_far (p := ⟨gb236, 2, none⟩) (Kd.N_far (p := ⟨gb236, 1, none⟩) (Kd.N_far (p := ⟨gb236, 0, none⟩) (Kd.N_mono HO227.out (fun k_ hk => (⟨hk, hk.2⟩ : _ ∧ k_ ≠ gb236))) (fun _ hk => hk.2) (.slice Ao32 t225.length co32)) (fun _ hk => hk.2) (.slice Ao36 t228.length co36)) (fun _ hk => hk.2) (.slice Ao37 t231.length co37)) (fun _ h_ => h_.1))) hb) (by first | exact Kd.N_base ho0 | exact Kd.S_base ho0)) (Kd.R_base ho1)) (Kd.R_base ho2)) (fun _ h_ => h_.1)); have n7_ := Aside0.mk (Kd.R_elder' (by (with_reducible repeat (first | apply Kd.R_alloc | apply Kd.R_drewN | apply Kd.R_drew)); exact (Kd.R_mono (Kd.R_far (p := ⟨gb236, 2, none⟩) (Kd.R_far (p := ⟨gb236, 1, none⟩) (Kd.R_far (p := ⟨gb236, 0, none⟩) (Rt HO230.out BK236.out) (fun _ hk => hk.2) (.slice Ao32 t225.length co32)) (fun _ hk => hk.2) (.slice Ao36 t228.length co36)) (fun _ hk => hk.2) (.slice Ao37 t231.length co37)) (fun _ h_ => h_.1))) (Kd.R_base ho1) hb); have n8_ := Aside0.mk (Kd.R_elder' (by (with_reducible repeat (first | apply Kd.R_alloc | apply Kd.R_drewN | apply Kd.R_drew)); exact (Kd.R_mono (Kd.R_far (p := ⟨gb236, 2, none⟩) (Kd.R_far (p := ⟨gb236, 1, none⟩) (Kd.R_far (p := ⟨gb236, 0, none⟩) (Rt HO233.out BK236.out) (fun _ hk => hk.2) (.slice Ao32 t225.length co32)) (fun _ hk => hk.2) (.slice Ao36 t228.length co36)) (fun _ hk => hk.2) (.slice Ao37 t231.length co37)) (fun _ h_ => h_.1))) (Kd.R_base ho2) hb); have n9_ := Aside0.mk (Kd.N_lower (Kd.N_mono (ok' := fun k_ => some k_ ≠ (v242 : Value).ownBlock ∧ some k_ ≠ (v245 : Value).ownBlock ∧ some k_ ≠ (.slice Ao19 t201.length co19 : Value).ownBlock ∧ some k_ ≠ (.slice Ao21 t204.length co21 : Value).ownBlock ∧ some k_ ≠ (.slice Ao22 t207.length co22 : Value).ownBlock ∧ some k_ ≠ (.slice Ao25 t213.length co25 : Value).ownBlock ∧ some k_ ≠ (.slice Ao28 t216.length co28 : Value).ownBlock ∧ some k_ ≠ (.slice Ao29 t219.length co29 : Value).ownBlock ∧ some k_ ≠ (.slice Ao32 t225.length co32 : Value).ownBlock ∧ some k_ ≠ (.slice Ao36 t228.length co36 : Value).ownBlock ∧ some k_ ≠ (.slice Ao37 t231.length co37 : Value).ownBlock ∧ k_ ≠ gb212 ∧ k_ ≠ gb224 ∧ k_ ≠ gb236) ho0 (fun k_ hk_ => ⟨hk_.2.1, hk_.2.2, (Kd.fresh' (Kd.N_lt (by (with_reducible repeat (first | apply Kd.N_alloc | apply Kd.N_drewN | apply Kd.N_drew)); exact (Kd.N_mono (Kd.N_far (p := ⟨gb236, 2, none⟩) (Kd.N_far (p := ⟨gb236, 1, none⟩) (Kd.N_far (p := ⟨gb236, 0, none⟩) (Kd.N_mono HO203.out (fun k_ hk => (⟨hk, hk.2⟩ : _ ∧ k_ ≠ gb236))) (fun _ hk => hk.2) (.slice Ao32 t225.length co32)) (fun _ hk => hk.2) (.slice Ao36 t228.length co36)) (fun _ hk => hk.2) (.slice Ao37 t231.length co37)) (fun _ h_ => h_.1)))) k_ hk_.1), (Kd.fresh' (Kd.R_lt (by (with_reducible repeat (first | apply Kd.R_alloc | apply Kd.R_drewN | apply Kd.R_drew)); exact (Kd.R_mono (Kd.R_far (p := ⟨gb236, 2, none⟩) (Kd.R_far (p := ⟨gb236, 1, none⟩) (Kd.R_far (p := ⟨gb236, 0, none⟩) (Rt HO206.out BK236.out) (fun _ hk => hk.2) (.slice Ao32 t225.length co32)) (fun _ hk => hk.2) (.slice Ao36 t228.length co36)) (fun _ hk => hk.2) (.slice Ao37 t231.length co37)) (fun _ h_ => h_.1)))) k_ hk_.1), (Kd.fresh' (Kd.R_lt (by (with_reducible repeat (first | apply Kd.R_alloc | apply Kd.R_drewN | apply Kd.R_drew)); exact (Kd.R_mono (Kd.R_far (p := ⟨gb236, 2, none⟩) (Kd.R_far (p := ⟨gb236, 1, none⟩) (Kd.R_far (p := ⟨gb236, 0, none⟩) (Rt HO209.out BK236.out) (fun _ hk => hk.2) (.slice Ao32 t225.length co32)) (fun _ hk => hk.2) (.slice Ao36 t228.length co36)) (fun _ hk => hk.2) (.slice Ao37 t231.length co37)) (fun _ h_ => h_.1)))) k_ hk_.1), (Kd.fresh' (Kd.N_lt (by (with_reducible repeat (first | apply Kd.N_alloc | apply Kd.N_drewN | apply Kd.N_drew)); exact (Kd.N_mono (Kd.N_far (p := ⟨gb236, 2, none⟩) (Kd.N_far (p := ⟨gb236, 1, none⟩) (Kd.N_far (p := ⟨gb236, 0, none⟩) (Kd.N_mono HO215.out (fun k_ hk => (⟨hk, hk.2⟩ : _ ∧ k_ ≠ gb236))) (fun _ hk => hk.2) (.slice Ao32 t225.length co32)) (fun _ hk => hk.2) (.slice Ao36 t228.length co36)) (fun _ hk => hk.2) (.slice Ao37 t231.length co37)) (fun _ h_ => h_.1)))) k_ hk_.1), (Kd.fresh' (Kd.R_lt (by (with_reducible repeat (first | apply Kd.R_alloc | apply Kd.R_drewN | apply Kd.R_drew)); exact (Kd.R_mono (Kd.R_far (p := ⟨gb236, 2, none⟩) (Kd.R_far (p := ⟨gb236, 1, none⟩) (Kd.R_far (p := ⟨gb236, 0, none⟩) (Rt HO218.out BK236.out) (fun _ hk => hk.2) (.slice Ao32 t225.length co32)) (fun _ hk => hk.2) (.slice Ao36 t228.length co36)) (fun _ hk => hk.2) (.slice Ao37 t231.length co37)) (fun _ h_ => h_.1)))) k_ hk_.1), (Kd.fresh' (Kd.R_lt (by (with_reducible repeat (first | apply Kd.R_alloc | apply Kd.R_drewN | apply Kd.R_drew)); exact (Kd.R_mono (Kd.R_far (p := ⟨gb236, 2, none⟩) (Kd.R_far (p := ⟨gb236, 1, none⟩) (Kd.R_far (p := ⟨gb236, 0, none⟩) (Rt HO221.out BK236.out) (fun _ hk => hk.2) (.slice Ao32 t225.length co32)) (fun _ hk => hk.2) (.slice Ao36 t228.length co36)) (fun _ hk => hk.2) (.slice Ao37 t231.length co37)) (fun _ h_ => h_.1)))) k_ hk_.1), (Kd.fresh' (Kd.N_lt (by (with_reducible repeat (first | apply Kd.N_alloc | apply Kd.N_drewN | apply Kd.N_drew)); exact (Kd.N_mono (Kd.N_far (p := ⟨gb236, 2, none⟩) (Kd.N_far (p := ⟨gb236, 1, none⟩) (Kd.N_far (p := ⟨gb236, 0, none⟩) (Kd.N_mono HO227.out (fun k_ hk => (⟨hk, hk.2⟩ : _ ∧ k_ ≠ gb236))) (fun _ hk => hk.2) (.slice Ao32 t225.length co32)) (fun _ hk => hk.2) (.slice Ao36 t228.length co36)) (fun _ hk => hk.2) (.slice Ao37 t231.length co37)) (fun _ h_ => h_.1)))) k_ hk_.1), (Kd.fresh' (Kd.R_lt (by (with_reducible repeat (first | apply Kd.R_alloc | apply Kd.R_drewN | apply Kd.R_drew)); exact (Kd.R_mono (Kd.R_far (p := ⟨gb236, 2, none⟩) (Kd.R_far (p := ⟨gb236, 1, none⟩) (Kd.R_far (p := ⟨gb236, 0, none⟩) (Rt HO230.out BK236.out) (fun _ hk => hk.2) (.slice Ao32 t225.length co32)) (fun _ hk => hk.2) (.slice Ao36 t228.length co36)) (fun _ hk => hk.2) (.slice Ao37 t231.length co37)) (fun _ h_ => h_.1)))) k_ hk_.1), (Kd.fresh' (Kd.R_lt (by (with_reducible repeat (first | apply Kd.R_alloc | apply Kd.R_drewN | apply Kd.R_drew)); exact (Kd.R_mono (Kd.R_far (p := ⟨gb236, 2, none⟩) (Kd.R_far (p := ⟨gb236, 1, none⟩) (Kd.R_far (p := ⟨gb236, 0, none⟩) (Rt HO233.out BK236.out) (fun _ hk => hk.2) (.slice Ao32 t225.length co32)) (fun _ hk => hk.2) (.slice Ao36 t228.length co36)) (fun _ hk => hk.2) (.slice Ao37 t231.length co37)) (fun _ h_ => h_.1)))) k_ hk_.1), (Kd.freshB (g := gb212) (o := .cells #[.slice Ao19 t201.length co19, .slice Ao21 t204.length co21, .slice Ao22 t207.length co22] 26 (0, 0)) (by (with_reducible repeat (first | refine blk_drewN ?_ _ | refine blk_drew ?_ | refine blk_alloc ?_ _)); refine blk_far ?_ NB212_236.out _; (with_reducible repeat (first | refine blk_drewN ?_ _ | refine blk_drew ?_ | refine blk_alloc ?_ _)); refine blk_far ?_ NB212_236.out _; (with_reducible repeat (first | refine blk_drewN ?_ _ | refine blk_drew ?_ | refine blk_alloc ?_ _)); refine blk_far ?_ NB212_236.out _; (with_reducible repeat (first | refine blk_drewN ?_ _ | refine blk_drew ?_ | refine blk_alloc ?_ _)); exact BK212.out) k_ hk_.1), (Kd.freshB (g := gb224) (o := .cells #[.slice Ao25 t213.length co25, .slice Ao28 t216.length co28, .slice Ao29 t219.length co29] 26 (0, 0)) (by (with_reducible repeat (first | refine blk_drewN ?_ _ | refine blk_drew ?_ | refine blk_alloc ?_ _)); refine blk_far ?_ NB224_236.out _; (with_reducible repeat (first | refine blk_drewN ?_ _ | refine blk_drew ?_ | refine blk_alloc ?_ _)); refine blk_far ?_ NB224_236.out _; (with_reducible repeat (first | refine blk_drewN ?_ _ | refine blk_drew ?_ | refine blk_alloc ?_ _)); refine blk_far ?_ NB224_236.out _; (with_reducible repeat (first | refine blk_drewN ?_ _ | refine blk_drew ?_ | refine blk_alloc ?_ _)); exact BK224.out) k_ hk_.1), (Kd.freshB (g := gb236) (o := .cells #[.slice Ao32 t225.length co32, .slice Ao36 t228.length co36, .slice Ao37 t231.length co37] 26 (0, 0)) (by (with_reducible repeat (first | refine blk_drewN ?_ _ | refine blk_drew ?_ | refine blk_alloc ?_ _)); refine blk_put (cs := #[.slice Ao32 t225.length co32, .slice Ao36 t228.length co36, .slice none 0 0]) ?_ 2 _ rfl; (with_reducible repeat (first | refine blk_drewN ?_ _ | refine blk_drew ?_ | refine blk_alloc ?_ _)); refine blk_put (cs := #[.slice Ao32 t225.length co32, .slice none 0 0, .slice none 0 0]) ?_ 1 _ rfl; (with_reducible repeat (first | refine blk_drewN ?_ _ | refine blk_drew ?_ | refine blk_alloc ?_ _)); refine blk_put (cs := #[.slice none 0 0, .slice none 0 0, .slice none 0 0]) ?_ 0 _ rfl; (with_reducible repeat (first | refine blk_drewN ?_ _ | refine blk_drew ?_ | refine blk_alloc ?_ _)); exact BK236.out) k_ hk_.1)⟩)) (below_size (W3 HB.out GE212.out GE224.out GE236.out))); have n10_ := Aside0.mk (Kd.R_lower (Kd.R_new' (Kd.R_new' (Kd.R_new' (Kd.R_mono (ok' := fun k_ => True) ho1 (fun _ hk_ => trivial)) (Kd.R_lt (by (with_reducible repeat (first | apply Kd.R_alloc | apply Kd.R_drewN | apply Kd.R_drew)); exact (Kd.R_mono (Kd.R_far (p := ⟨gb236, 2, none⟩) (Kd.R_far (p := ⟨gb236, 1, none⟩) (Kd.R_far (p := ⟨gb236, 0, none⟩) (Rt HO206.out BK236.out) (fun _ hk => hk.2) (.slice Ao32 t225.length co32)) (fun _ hk => hk.2) (.slice Ao36 t228.length co36)) (fun _ hk => hk.2) (.slice Ao37 t231.length co37)) (fun _ h_ => h_.1))))) (Kd.R_lt (by (with_reducible repeat (first | apply Kd.R_alloc | apply Kd.R_drewN | apply Kd.R_drew)); exact (Kd.R_mono (Kd.R_far (p := ⟨gb236, 2, none⟩) (Kd.R_far (p := ⟨gb236, 1, none⟩) (Kd.R_far (p := ⟨gb236, 0, none⟩) (Rt HO218.out BK236.out) (fun _ hk => hk.2) (.slice Ao32 t225.length co32)) (fun _ hk => hk.2) (.slice Ao36 t228.length co36)) (fun _ hk => hk.2) (.slice Ao37 t231.length co37)) (fun _ h_ => h_.1))))) (Kd.R_lt (by (with_reducible repeat (first | apply Kd.R_alloc | apply Kd.R_drewN | apply Kd.R_drew)); exact (Kd.R_mono (Kd.R_far (p := ⟨gb236, 2, none⟩) (Kd.R_far (p := ⟨gb236, 1, none⟩) (Kd.R_far (p := ⟨gb236, 0, none⟩) (Rt HO230.out BK236.out) (fun _ hk => hk.2) (.slice Ao32 t225.length co32)) (fun _ hk => hk.2) (.slice Ao36 t228.length co36)) (fun _ hk => hk.2) (.slice Ao37 t231.length co37)) (fun _ h_ => h_.1))))) (below_size (W3 HB.out GE212.out GE224.out GE236.out))); have n11_ := Aside0.mk (Kd.R_lower (Kd.R_new' (Kd.R_new' (Kd.R_new' (Kd.R_mono (ok' := fun k_ => True) ho2 (fun _ hk_ => trivial)) (Kd.R_lt (by (with_reducible repeat (first | apply Kd.R_alloc | apply Kd.R_drewN | apply Kd.R_drew)); exact (Kd.R_mono (Kd.R_far (p := ⟨gb236, 2, none⟩) (Kd.R_far (p := ⟨gb236, 1, none⟩) (Kd.R_far (p := ⟨gb236, 0, none⟩) (Rt HO209.out BK236.out) (fun _ hk => hk.2) (.slice Ao32 t225.length co32)) (fun _ hk => hk.2) (.slice Ao36 t228.length co36)) (fun _ hk => hk.2) (.slice Ao37 t231.length co37)) (fun _ h_ => h_.1))))) (Kd.R_lt (by (with_reducible repeat (first | apply Kd.R_alloc | apply Kd.R_drewN | apply Kd.R_drew)); exact (Kd.R_mono (Kd.R_far (p := ⟨gb236, 2, none⟩) (Kd.R_far (p := ⟨gb236, 1, none⟩) (Kd.R_far (p := ⟨gb236, 0, none⟩) (Rt HO221.out BK236.out) (fun _ hk => hk.2) (.slice Ao32 t225.length co32)) (fun _ hk => hk.2) (.slice Ao36 t228.length co36)) (fun _ hk => hk.2) (.slice Ao37 t231.length co37)) (fun _ h_ => h_.1))))) (Kd.R_lt (by (with_reducible repeat (first | apply Kd.R_alloc | apply Kd.R_drewN | apply Kd.R_drew)); exact (Kd.R_mono (Kd.R_far (p := ⟨gb236, 2, none⟩) (Kd.R_far (p := ⟨gb236, 1, none⟩) (Kd.R_far (p := ⟨gb236, 0, none⟩) (Rt HO233.out BK236.out) (fun _ hk => hk.2) (.slice Ao32 t225.length co32)) (fun _ hk => hk.2) (.slice Ao36 t228.length co36)) (fun _ hk => hk.2) (.slice Ao37 t231.length co37)) (fun _ h_ => h_.1))))) (below_size (W3 HB.out GE212.out GE224.out GE236.out))); have n12_ := Aside0.mk (blk_below (g := gb212) (o := .cells #[.slice Ao19 t201.length co19, .slice Ao21 t204.length co21, .slice Ao22 t207.length co22] 26 (0, 0)) (by (with_reducible repeat (first | refine blk_drewN ?_ _ | refine blk_drew ?_ | refine blk_alloc ?_ _)); refine blk_far ?_ NB212_236.out _; (with_reducible repeat (first | refine blk_drewN ?_ _ | refine blk_drew ?_ | refine blk_alloc ?_ _)); refine blk_far ?_ NB212_236.out _; (with_reducible repeat (first | refine blk_drewN ?_ _ | refine blk_drew ?_ | refine blk_alloc ?_ _)); refine blk_far ?_ NB212_236.out _; (with_reducible repeat (first | refine blk_drewN ?_ _ | refine blk_drew ?_ | refine blk_alloc ?_ _)); exact BK212.out) hb); have n13_ := Aside0.mk (blk_below (g := gb224) (o := .cells #[.slice Ao25 t213.length co25, .slice Ao28 t216.length co28, .slice Ao29 t219.length co29] 26 (0, 0)) (by (with_reducible repeat (first | refine blk_drewN ?_ _ | refine blk_drew ?_ | refine blk_alloc ?_ _)); refine blk_far ?_ NB224_236.out _; (with_reducible repeat (first | refine blk_drewN ?_ _ | refine blk_drew ?_ | refine blk_alloc ?_ _)); refine blk_far ?_ NB224_236.out _; (with_reducible repeat (first | refine blk_drewN ?_ _ | refine blk_drew ?_ | refine blk_alloc ?_ _)); refine blk_far ?_ NB224_236.out _; (with_reducible repeat (first | refine blk_drewN ?_ _ | refine blk_drew ?_ | refine blk_alloc ?_ _)); exact BK224.out) hb); have n14_ := Aside0.mk (blk_below (g := gb236) (o := .cells #[.slice Ao32 t225.length co32, .slice Ao36 t228.length co36, .slice Ao37 t231.length co37] 26 (0, 0)) (by (with_reducible repeat (first | refine blk_drewN ?_ _ | refine blk_drew ?_ | refine blk_alloc ?_ _)); refine blk_put (cs := #[.slice Ao32 t225.length co32, .slice Ao36 t228.length co36, .slice none 0 0]) ?_ 2 _ rfl; (with_reducible repeat (first | refine blk_drewN ?_ _ | refine blk_drew ?_ | refine blk_alloc ?_ _)); refine blk_put (cs := #[.slice Ao32 t225.length co32, .slice none 0 0, .slice none 0 0]) ?_ 1 _ rfl; (with_reducible repeat (first | refine blk_drewN ?_ _ | refine blk_drew ?_ | refine blk_alloc ?_ _)); refine blk_put (cs := #[.slice none 0 0, .slice none 0 0, .slice none 0 0]) ?_ 0 _ rfl; (with_reducible repeat (first | refine blk_drewN ?_ _ | refine blk_drew ?_ | refine blk_alloc ?_ _)); exact BK236.out) hb); have n15_ := Aside0.mk (below_step (W3 HB.out GE212.out GE224.out GE236.out) hb); clear HO203; clear HO206; clear HO209; clear HO215; clear HO218; clear HO221; clear HO227; clear HO230; clear HO233; clear BK212; clear BK224; clear BK236; clear HB; have HO203 := n0_; have HO206 := n1_; have HO209 := n2_; have HO215 := n3_; have HO218 := n4_; have HO221 := n5_; have HO227 := n6_; have HO230 := n7_; have HO233 := n8_; have HO240 := n9_; have HO243 := n10_; have HO246 := n11_; have BK212 := n12_; have BK224 := n13_; have BK236 := n14_; have HB := n15_; clear n0_ n1_ n2_ n3_ n4_ n5_ n6_ n7_ n8_ n9_ n10_ n11_ n12_ n13_ n14_ n15_; (try clear hb); (try clear hb2); (try clear hk); (try clear hi); (try clear ho0); (try clear ho1); (try clear ho2)) | ((with_reducible refine gate_dst (N := 14) rfl ?_); refine box_event ?hg (N := 14) ?hd (cs := #[.slice none 0 0, .slice none 0 0, .slice none 0 0]) (t := 26) ?hr ?_; (case hd => rfl); (case hg => rfl); (case hr => first | (go_simp; done) | (go_simp; rfl)); intro gb248 hg w41 hbox hb; have n0_ := Aside0.mk (Kd.N_below (Kd.N_elderB (Nq HO203.out) gb248 (Nat.le_of_eq hg.symm)) hb); have n1_ := Aside0.mk (Kd.R_below (Rq HO206.out) hb); have n2_ := Aside0.mk (Kd.R_below (Rq HO209.out) hb); have n3_ := Aside0.mk (Kd.N_below (Kd.N_elderB (Nq HO215.out) gb248 (Nat.le_of_eq hg.symm)) hb); have n4_ := Aside0.mk (Kd.R_below (Rq HO218.out) hb); have n5_ := Aside0.mk (Kd.R_below (Rq HO221.out) hb); have n6_ := Aside0.mk (Kd.N_below (Kd.N_elderB (Nq HO227.out) gb248 (Nat.le_of_eq hg.symm)) hb); have n7_ := Aside0.mk (Kd.R_below (Rq HO230.out) hb); have n8_ := Aside0.mk (Kd.R_below (Rq HO233.out) hb); have n9_ := Aside0.mk (Kd.N_below (Kd.N_elderB (Nq HO240.out) gb248 (Nat.le_of_eq hg.symm)) hb); have n10_ := Aside0.mk (Kd.R_below (Rq HO243.out) hb); have n11_ := Aside0.mk (Kd.R_below (Rq HO246.out) hb); have n12_ := Aside0.mk (blk_below (g := gb212) (Bq BK212.out) hb); have n13_ := Aside0.mk (blk_below (g := gb224) (Bq BK224.out) hb); have n14_ := Aside0.mk (blk_below (g := gb236) (Bq BK236.out) hb); have n15_ := Aside0.mk (below_step (W3 HB.out GE212.out GE224.out GE236.out) hb); have n16_ := Aside0.mk (hbox); have n17_ := Aside0.mk ((by rw [hg]; exact (below_size (W3 HB.out GE212.out GE224.out GE236.out)) : w.heap.size ≤ gb248)); have n18_ := Aside0.mk ((by rw [hg]; exact (below_size (W3 HB.out GE212.out GE224.out GE236.out)) : w.heap.size ≤ gb248)); have n19_ := Aside0.mk ((by rw [hg]; exact Nat.ne_of_lt (blk_lt (g := gb212) (Bq BK212.out)) : gb212 ≠ gb248)); have n20_ := Aside0.mk ((by rw [hg]; exact Nat.ne_of_gt (blk_lt (g := gb212) (Bq BK212.out)) : gb248 ≠ gb212)); have n21_ := Aside0.mk ((by rw [hg]; exact Nat.ne_of_lt (blk_lt (g := gb224) (Bq BK224.out)) : gb224 ≠ gb248)); have n22_ := Aside0.mk ((by rw [hg]; exact Nat.ne_of_gt (blk_lt (g := gb224) (Bq BK224.out)) : gb248 ≠ gb224)); have n23_ := Aside0.mk ((by rw [hg]; exact Nat.ne_of_lt (blk_lt (g := gb236) (Bq BK236.out)) : gb236 ≠ gb248)); have n24_ := Aside0.mk ((by rw [hg]; exact Nat.ne_of_gt (blk_lt (g := gb236) (Bq BK236.out)) : gb248 ≠ gb236)); clear HO203; clear HO206; clear HO209; clear HO215; clear HO218; clear HO221; clear HO227; clear HO230; clear HO233; clear HO240; clear HO243; clear HO246; clear BK212; clear BK224; clear BK236; clear HB; have HO203 := n0_; have HO206 := n1_; have HO209 := n2_; have HO215 := n3_; have HO218 := n4_; have HO221 := n5_; have HO227 := n6_; have HO230 := n7_; have HO233 := n8_; have HO240 := n9_; have HO243 := n10_; have HO246 := n11_; have BK212 := n12_; have BK224 := n13_; have BK236 := n14_; have HB := n15_; have BK248 := n16_; have GW248 := n17_; have GE248 := n18_; have NB212_248 := n19_; have NB248_212 := n20_; have NB224_248 := n21_; have NB248_224 := n22_; have NB236_248 := n23_; have NB248_236 := n24_; clear n0_ n1_ n2_ n3_ n4_ n5_ n6_ n7_ n8_ n9_ n10_ n11_ n12_ n13_ n14_ n15_ n16_ n17_ n18_ n19_ n20_ n21_ n22_ n23_ n24_; clear hb hbox hg; obtain ⟨Ao42, co42, eo42⟩ := Kd.N_slice HO240.out; subst eo42; have hnb43 := NB248_212.out; have hnc43 := NB212_248.out; have hnb44 := NB248_224.out; have hnc44 := NB224_248.out; have hnb45 := NB248_236.out; have hnc45 := NB236_248.out; have hcz46_0 : w41.cell? ⟨gb248, 0, none⟩ = some (.slice none 0 0) := (blk_cell BK248.out 0).trans rfl; have hcz46_1 : w41.cell? ⟨gb248, 1, none⟩ = some (.slice none 0 0) := (blk_cell BK248.out 1).trans rfl; have hcz46_2 : w41.cell? ⟨gb248, 2, none⟩ = some (.slice none 0 0) := (blk_cell BK248.out 2).trans rfl; have hfz46_0 := blk_frozen BK248.out 0; have hfz46_1 := blk_frozen BK248.out 1; have hfz46_2 := blk_frozen BK248.out 2; obtain ⟨Ao47, co47, eo47⟩ := Kd.R_slice HO243.out; subst eo47; obtain ⟨Ao48, co48, eo48⟩ := Kd.R_slice HO246.out; subst eo48; have hcz49_0 : w41.cell? ⟨gb236, 0, none⟩ = some (.slice Ao32 t225.length co32) := (blk_cell BK236.out 0).trans rfl; have hcz49_1 : w41.cell? ⟨gb236, 1, none⟩ = some (.slice Ao36 t228.length co36) := (blk_cell BK236.out 1).trans rfl; have hcz49_2 : w41.cell? ⟨gb236, 2, none⟩ = some (.slice Ao37 t231.length co37) := (blk_cell BK236.out 2).trans rfl; have hfz49_0 := blk_frozen BK236.out 0; have hfz49_1 := blk_frozen BK236.out 1; have hfz49_2 := blk_frozen BK236.out 2) | (go_at_call 16; (with_reducible refine (depotref00_SameRequest.calls k _ _ t225 _ _ t228 _ _ t231 _ _ t238 _ _ t241 _ _ t244 true _ ?side1 ?side2 ?side3 ?side4 ?side5 ?side6 ?side7 ?side8 ?side9 ?side10 ?side11 ?side12 A14.out).mono ?_); (case side1 => refine (Kd.N_reads' (e := 23) (base := w.heap.size) (ok := fun k_ => ((((((some k_ ≠ (.slice Ao36 t228.length co36 : Value).ownBlock ∧ (some k_ ≠ (.slice Ao37 t231.length co37 : Value).ownBlock ∧ (some k_ ≠ (.slice Ao19 t201.length co19 : Value).ownBlock ∧ (some k_ ≠ (.slice Ao21 t204.length co21 : Value).ownBlock ∧ (some k_ ≠ (.slice Ao22 t207.length co22 : Value).ownBlock ∧ (some k_ ≠ (.slice Ao25 t213.length co25 : Value).ownBlock ∧ (some k_ ≠ (.slice Ao28 t216.length co28 : Value).ownBlock ∧ (some k_ ≠ (.slice Ao29 t219.length co29 : Value).ownBlock ∧ (k_ ≠ gb212 ∧ k_ ≠ gb224))))))))) ∧ k_ ≠ gb236) ∧ some k_ ≠ (.slice Ao42 t238.length co42 : Value).ownBlock) ∧ some k_ ≠ (.slice Ao47 t241.length co47 : Value).ownBlock) ∧ some k_ ≠ (.slice Ao48 t244.length co48 : Value).ownBlock) ∧ k_ ≠ gb248)) (n := t225.length) (c := co32) ?_).2.2; exact (by (with_reducible repeat (first | apply Kd.N_alloc | apply Kd.N_drewN | apply Kd.N_drew)); exact (Kd.N_mono (Kd.N_far (p := ⟨gb248, 2, none⟩) (Kd.N_far (p := ⟨gb248, 1, none⟩) (Kd.N_far (p := ⟨gb248, 0, none⟩) (Kd.N_mono HO227.out (fun k_ hk => (⟨hk, hk.2⟩ : _ ∧ k_ ≠ gb248))) (fun _ hk => hk.2) (.slice Ao42 t238.length co42)) (fun _ hk => hk.2) (.slice Ao47 t241.length co47)) (fun _ hk => hk.2) (.slice Ao48 t244.length co48)) (fun _ h_ => h_.1)))); (case side2 => exact (Kd.N_reads' HO227.out).2.1); (case side3 => refine (Kd.R_reads' (e := 46) (base := w.heap.size) (ok := fun k_ => (((True ∧ some k_ ≠ (.slice Ao21 t204.length co21 : Value).ownBlock) ∧ some k_ ≠ (.slice Ao28 t216.length co28 : Value).ownBlock) ∧ some k_ ≠ (.slice Ao47 t241.length co47 : Value).ownBlock)) (n := t228.length) (c := co36) ?_).2.2; exact (by (with_reducible repeat (first | apply Kd.R_alloc | apply Kd.R_drewN | apply Kd.R_drew)); exact (Kd.R_mono (Kd.R_far (p := ⟨gb248, 2, none⟩) (Kd.R_far (p := ⟨gb248, 1, none⟩) (Kd.R_far (p := ⟨gb248, 0, none⟩) (Rt HO230.out BK248.out) (fun _ hk => hk.2) (.slice Ao42 t238.length co42)) (fun _ hk => hk.2) (.slice Ao47 t241.length co47)) (fun _ hk => hk.2) (.slice Ao48 t244.length co48)) (fun _ h_ => h_.1)))); (case side4 => exact (Kd.R_reads' HO230.out).2.1); (case side5 => refine (Kd.R_reads' (e := 48) (base := w.heap.size) (ok := fun k_ => (((True ∧ some k_ ≠ (.slice Ao22 t207.length co22 : Value).ownBlock) ∧ some k_ ≠ (.slice Ao29 t219.length co29 : Value).ownBlock) ∧ some k_ ≠ (.slice Ao48 t244.length co48 : Value).ownBlock)) (n := t231.length) (c := co37) ?_).2.2; exact (by (with_reducible repeat (first | apply Kd.R_alloc | apply Kd.R_drewN | apply Kd.R_drew)); exact (Kd.R_mono (Kd.R_far (p := ⟨gb248, 2, none⟩) (Kd.R_far (p := ⟨gb248, 1, none⟩) (Kd.R_far (p := ⟨gb248, 0, none⟩) (Rt HO233.out BK248.out) (fun _ hk => hk.2) (.slice Ao42 t238.length co42)) (fun _ hk => hk.2) (.slice Ao47 t241.length co47)) (fun _ hk => hk.2) (.slice Ao48 t244.length co48)) (fun _ h_ => h_.1)))); (case side6 => exact (Kd.R_reads' HO233.out).2.1); (case side7 => refine (Kd.N_reads' (e := 23) (base := w.heap.size) (ok := fun k_ => ((some k_ ≠ (.slice Ao47 t241.length co47 : Value).ownBlock ∧ (some k_ ≠ (.slice Ao48 t244.length co48 : Value).ownBlock ∧ (some k_ ≠ (.slice Ao19 t201.length co19 : Value).ownBlock ∧ (some k_ ≠ (.slice Ao21 t204.length co21 : Value).ownBlock ∧ (some k_ ≠ (.slice Ao22 t207.length co22 : Value).ownBlock ∧ (some k_ ≠ (.slice Ao25 t213.length co25 : Value).ownBlock ∧ (some k_ ≠ (.slice Ao28 t216.length co28 : Value).ownBlock ∧ (some k_ ≠ (.slice Ao29 t219.length co29 : Value).ownBlock ∧ (some k_ ≠ (.slice Ao32 t225.length co32 : Value).ownBlock ∧ (some k_ ≠ (.slice Ao36 t228.length co36 : Value).ownBlock ∧ (some k_ ≠ (.slice Ao37 t231.length co37 : Value).ownBlock ∧ (k_ ≠ gb212 ∧ (k_ ≠ gb224 ∧ k_ ≠ gb236))))))))))))) ∧ k_ ≠ gb248)) (n := t238.length) (c := co42) ?_).2.2; exact (by (with_reducible repeat (first | apply Kd.N_alloc | apply Kd.N_drewN | apply Kd.N_drew)); exact (Kd.N_mono (Kd.N_far (p := ⟨gb248, 2, none⟩) (Kd.N_far (p := ⟨gb248, 1, none⟩) (Kd.N_far (p := ⟨gb248, 0, none⟩) (Kd.N_mono HO240.out (fun k_ hk => (⟨hk, hk.2⟩ : _ ∧ k_ ≠ gb248))) (fun _ hk => hk.2) (.slice Ao42 t238.length co42)) (fun _ hk => hk.2) (.slice Ao47 t241.length co47)) (fun _ hk => hk.2) (.slice Ao48 t244.length co48)) (fun _ h_ => h_.1)))); (case side8 => exact (Kd.N_reads' HO240.out).2.1); (case side9 => refine (Kd.R_reads' (e := 46) (base := w.heap.size) (ok := fun k_ => (((True ∧ some k_ ≠ (.slice Ao21 t204.length co21 : Value).ownBlock) ∧ some k_ ≠ (.slice Ao28 t216.length co28 : Value).ownBlock) ∧ some k_ ≠ (.slice Ao36 t228.length co36 : Value).ownBlock)) (n := t241.length) (c := co47) ?_).2.2; exact (by (with_reducible repeat (first | apply Kd.R_alloc | apply Kd.R_drewN | apply Kd.R_drew)); exact (Kd.R_mono (Kd.R_far (p := ⟨gb248, 2, none⟩) (Kd.R_far (p := ⟨gb248, 1, none⟩) (Kd.R_far (p := ⟨gb248, 0, none⟩) (Rt HO243.out BK248.out) (fun _ hk => hk.2) (.slice Ao42 t238.length co42)) (fun _ hk => hk.2) (.slice Ao47 t241.length co47)) (fun _ hk => hk.2) (.slice Ao48 t244.length co48)) (fun _ h_ => h_.1)))); (case side10 => exact (Kd.R_reads' HO243.out).2.1); (case side11 => refine (Kd.R_reads' (e := 48) (base := w.heap.size) (ok := fun k_ => (((True ∧ some k_ ≠ (.slice Ao22 t207.length co22 : Value).ownBlock) ∧ some k_ ≠ (.slice Ao29 t219.length co29 : Value).ownBlock) ∧ some k_ ≠ (.slice Ao37 t231.length co37 : Value).ownBlock)) (n := t244.length) (c := co48) ?_).2.2; exact (by (with_reducible repeat (first | apply Kd.R_alloc | apply Kd.R_drewN | apply Kd.R_drew)); exact (Kd.R_mono (Kd.R_far (p := ⟨gb248, 2, none⟩) (Kd.R_far (p := ⟨gb248, 1, none⟩) (Kd.R_far (p := ⟨gb248, 0, none⟩) (Rt HO246.out BK248.out) (fun _ hk => hk.2) (.slice Ao42 t238.length co42)) (fun _ hk => hk.2) (.slice Ao47 t241.length co47)) (fun _ hk => hk.2) (.slice Ao48 t244.length co48)) (fun _ h_ => h_.1)))); (case side12 => exact (Kd.R_reads' HO246.out).2.1); rintro e w50 ⟨rfl, hb⟩; have n0_ := Aside0.mk (Kd.N_below (by (with_reducible repeat (first | apply Kd.N_alloc | apply Kd.N_drewN | apply Kd.N_drew)); exact (Kd.N_mono (Kd.N_far (p := ⟨gb248, 2, none⟩) (Kd.N_far (p := ⟨gb248, 1, none⟩) (Kd.N_far (p := ⟨gb248, 0, none⟩) (Kd.N_mono HO203.out (fun k_ hk => (⟨hk, hk.2⟩ : _ ∧ k_ ≠ gb248))) (fun _ hk => hk.2) (.slice Ao42 t238.length co42)) (fun _ hk => hk.2) (.slice Ao47 t241.length co47)) (fun _ hk => hk.2) (.slice Ao48 t244.length co48)) (fun _ h_ => h_.1))) hb); have n1_ := Aside0.mk (Kd.R_below (by (with_reducible repeat (first | apply Kd.R_alloc | apply Kd.R_drewN | apply Kd.R_drew)); exact (Kd.R_mono (Kd.R_far (p := ⟨gb248, 2, none⟩) (Kd.R_far (p := ⟨gb248, 1, none⟩) (Kd.R_far (p := ⟨gb248, 0, none⟩) (Rt HO206.out BK248.out) (fun _ hk => hk.2) (.slice Ao42 t238.length co42)) (fun _ hk => hk.2) (.slice Ao47 t241.length co47)) (fun _ hk => hk.2) (.slice Ao48 t244.length co48)) (fun _ h_ => h_.1))) hb); have n2_ := Aside0.mk (Kd.R_below (by (with_reducible repeat (first | apply Kd.R_alloc | apply Kd.R_drewN | apply Kd.R_drew)); exact (Kd.R_mono (Kd.R_far (p := ⟨gb248, 2, none⟩) (Kd.R_far (p := ⟨gb248, 1, none⟩) (Kd.R_far (p := ⟨gb248, 0, none⟩) (Rt HO209.out BK248.out) (fun _ hk => hk.2) (.slice Ao42 t238.length co42)) (fun _ hk => hk.2) (.slice Ao47 t241.length co47)) (fun _ hk => hk.2) (.slice Ao48 t244.length co48)) (fun _ h_ => h_.1))) hb); have n3_ := Aside0.mk (Kd.N_below (by (with_reducible repeat (first | apply Kd.N_alloc | apply Kd.N_drewN | apply Kd.N_drew)); exact (Kd.N_mono (Kd.N_far (p := ⟨gb248, 2, none⟩) (Kd.N_far (p := ⟨gb248, 1, none⟩) (Kd.N_far (p := ⟨gb248, 0, none⟩) (Kd.N_mono HO215.out (fun k_ hk => (⟨hk, hk.2⟩ : _ ∧ k_ ≠ gb248))) (fun _ hk => hk.2) (.slice Ao42 t238.length co42)) (fun _ hk => hk.2) (.slice Ao47 t241.length co47)) (fun _ hk => hk.2) (.slice Ao48 t244.length co48)) (fun _ h_ => h_.1))) hb); have n4_ := Aside0.mk (Kd.R_below (by (with_reducible repeat (first | apply Kd.R_alloc | apply Kd.R_drewN | apply Kd.R_drew)); exact (Kd.R_mono (Kd.R_far (p := ⟨gb248, 2, none⟩) (Kd.R_far (p := ⟨gb248, 1, none⟩) (Kd.R_far (p := ⟨gb248, 0, none⟩) (Rt HO218.out BK248.out) (fun _ hk => hk.2) (.slice Ao42 t238.length co42)) (fun _ hk => hk.2) (.slice Ao47 t241.length co47)) (fun _ hk => hk.2) (.slice Ao48 t244.length co48)) (fun _ h_ => h_.1))) hb); have n5_ := Aside0.mk (Kd.R_below (by (with_reducible repeat (first | apply Kd.R_alloc | apply Kd.R_drewN | apply Kd.R_drew)); exact (Kd.R_mono (Kd.R_far (p := ⟨gb248, 2, none⟩) (Kd.R_far (p := ⟨gb248, 1, none⟩) (Kd.R_far (p := ⟨gb248, 0, none⟩) (Rt HO221.out BK248.out) (fun _ hk => hk.2) (.slice Ao42 t238.length co42)) (fun _ hk => hk.2) (.slice Ao47 t241.length co47)) (fun _ hk => hk.2) (.slice Ao48 t244.length co48)) (fun _ h_ => h_.1))) hb); have n6_ := Aside0.mk (Kd.N_below (by (with_reducible repeat (first | apply Kd.N_alloc | apply Kd.N_drewN | apply Kd.N_drew)); exact (Kd.N_mono (Kd.N_far (p := ⟨gb248, 2, none⟩) (Kd.N_far (p := ⟨gb248, 1, none⟩) (Kd.N_far (p := ⟨gb248, 0, none⟩) (Kd.N_mono HO227.out (fun k_ hk => (⟨hk, hk.2⟩ : _ ∧ k_ ≠ gb248))) (fun _ hk => hk.2) (.slice Ao42 t238.length co42)) (fun _ hk => hk.2) (.slice Ao47 t241.length co47)) (fun _ hk => hk.2) (.slice Ao48 t244.length co48)) (fun _ h_ => h_.1))) hb); have n7_ := Aside0.mk (Kd.R_below (by (with_reducible repeat (first | apply Kd.R_alloc | apply Kd.R_drewN | apply Kd.R_drew)); exact (Kd.R_mono (Kd.R_far (p := ⟨gb248, 2, none⟩) (Kd.R_far (p := ⟨gb248, 1, none⟩) (Kd.R_far (p := ⟨gb248, 0, none⟩) (Rt HO230.out BK248.out) (fun _ hk => hk.2) (.slice Ao42 t238.length co42)) (fun _ hk => hk.2) (.slice Ao47 t241.length co47)) (fun _ hk => hk.2) (.slice Ao48 t244.length co48)) (fun _ h_ => h_.1))) hb); have n8_ := Aside0.mk (Kd.R_below (by (with_reducible repeat (first | apply Kd.R_alloc | apply Kd.R_drewN | apply Kd.R_drew)); exact (Kd.R_mono (Kd.R_far (p := ⟨gb248, 2, none⟩) (Kd.R_far (p := ⟨gb248, 1, none⟩) (Kd.R_far (p := ⟨gb248, 0, none⟩) (Rt HO233.out BK248.out) (fun _ hk => hk.2) (.slice Ao42 t238.length co42)) (fun _ hk => hk.2) (.slice Ao47 t241.length co47)) (fun _ hk => hk.2) (.slice Ao48 t244.length co48)) (fun _ h_ => h_.1))) hb); have n9_ := Aside0.mk (Kd.N_below (by (with_reducible repeat (first | apply Kd.N_alloc | apply Kd.N_drewN | apply Kd.N_drew)); exact (Kd.N_mono (Kd.N_far (p := ⟨gb248, 2, none⟩) (Kd.N_far (p := ⟨gb248, 1, none⟩) (Kd.N_far (p := ⟨gb248, 0, none⟩) (Kd.N_mono HO240.out (fun k_ hk => (⟨hk, hk.2⟩ : _ ∧ k_ ≠ gb248))) (fun _ hk => hk.2) (.slice Ao42 t238.length co42)) (fun _ hk => hk.2) (.slice Ao47 t241.length co47)) (fun _ hk => hk.2) (.slice Ao48 t244.length co48)) (fun _ h_ => h_.1))) hb); have n10_ := Aside0.mk (Kd.R_below (by (with_reducible repeat (first | apply Kd.R_alloc | apply Kd.R_drewN | apply Kd.R_drew)); exact (Kd.R_mono (Kd.R_far (p := ⟨gb248, 2, none⟩) (Kd.R_far (p := ⟨gb248, 1, none⟩) (Kd.R_far (p := ⟨gb248, 0, none⟩) (Rt HO243.out BK248.out) (fun _ hk => hk.2) (.slice Ao42 t238.length co42)) (fun _ hk => hk.2) (.slice Ao47 t241.length co47)) (fun _ hk => hk.2) (.slice Ao48 t244.length co48)) (fun _ h_ => h_.1))) hb); have n11_ := Aside0.mk (Kd.R_below (by (with_reducible repeat (first | apply Kd.R_alloc | apply Kd.R_drewN | apply Kd.R_drew)); exact (Kd.R_mono (Kd.R_far (p := ⟨gb248, 2, none⟩) (Kd.R_far (p := ⟨gb248, 1, none⟩) (Kd.R_far (p := ⟨gb248, 0, none⟩) (Rt HO246.out BK248.out) (fun _ hk => hk.2) (.slice Ao42 t238.length co42)) (fun _ hk => hk.2) (.slice Ao47 t241.length co47)) (fun _ hk => hk.2) (.slice Ao48 t244.length co48)) (fun _ h_ => h_.1))) hb); have n12_ := Aside0.mk (blk_below (g := gb212) (o := .cells #[.slice Ao19 t201.length co19, .slice Ao21 t204.length co21, .slice Ao22 t207.length co22] 26 (0, 0)) (by (with_reducible repeat (first | refine blk_drewN ?_ _ | refine blk_drew ?_ | refine blk_alloc ?_ _)); refine blk_far ?_ NB212_248.out _; (with_reducible repeat (first | refine blk_drewN ?_ _ | refine blk_drew ?_ | refine blk_alloc ?_ _)); refine blk_far ?_ NB212_248.out _; (with_reducible repeat (first | refine blk_drewN ?_ _ | refine blk_drew ?_ | refine blk_alloc ?_ _)); refine blk_far ?_ NB212_248.out _; (with_reducible repeat (first | refine blk_drewN ?_ _ | refine blk_drew ?_ | refine blk_alloc ?_ _)); exact BK212.out) hb); have n13_ := Aside0.mk (blk_below (g := gb224) (o := .cells #[.slice Ao25 t213.length co25, .slice Ao28 t216.length co28, .slice Ao29 t219.length co29] 26 (0, 0)) (by (with_reducible repeat (first | refine blk_drewN ?_ _ | refine blk_drew ?_ | refine blk_alloc ?_ _)); refine blk_far ?_ NB224_248.out _; (with_reducible repeat (first | refine blk_drewN ?_ _ | refine blk_drew ?_ | refine blk_alloc ?_ _)); refine blk_far ?_ NB224_248.out _; (with_reducible repeat (first | refine blk_drewN ?_ _ | refine blk_drew ?_ | refine blk_alloc ?_ _)); refine blk_far ?_ NB224_248.out _; (with_reducible repeat (first | refine blk_drewN ?_ _ | refine blk_drew ?_ | refine blk_alloc ?_ _)); exact BK224.out) hb); have n14_ := Aside0.mk (blk_below (g := gb236) (o := .cells #[.slice Ao32 t225.length co32, .slice Ao36 t228.length co36, .slice Ao37 t231.length co37] 26 (0, 0)) (by (with_reducible repeat (first | refine blk_drewN ?_ _ | refine blk_drew ?_ | refine blk_alloc ?_ _)); refine blk_far ?_ NB236_248.out _; (with_reducible repeat (first | refine blk_drewN ?_ _ | refine blk_drew ?_ | refine blk_alloc ?_ _)); refine blk_far ?_ NB236_248.out _; (with_reducible repeat (first | refine blk_drewN ?_ _ | refine blk_drew ?_ | refine blk_alloc ?_ _)); refine blk_far ?_ NB236_248.out _; (with_reducible repeat (first | refine blk_drewN ?_ _ | refine blk_drew ?_ | refine blk_alloc ?_ _)); exact BK236.out) hb); have n15_ := Aside0.mk (blk_below (g := gb248) (o := .cells #[.slice Ao42 t238.length co42, .slice Ao47 t241.length co47, .slice Ao48 t244.length co48] 26 (0, 0)) (by (with_reducible repeat (first | refine blk_drewN ?_ _ | refine blk_drew ?_ | refine blk_alloc ?_ _)); refine blk_put (cs := #[.slice Ao42 t238.length co42, .slice Ao47 t241.length co47, .slice none 0 0]) ?_ 2 _ rfl; (with_reducible repeat (first | refine blk_drewN ?_ _ | refine blk_drew ?_ | refine blk_alloc ?_ _)); refine blk_put (cs := #[.slice Ao42 t238.length co42, .slice none 0 0, .slice none 0 0]) ?_ 1 _ rfl; (with_reducible repeat (first | refine blk_drewN ?_ _ | refine blk_drew ?_ | refine blk_alloc ?_ _)); refine blk_put (cs := #[.slice none 0 0, .slice none 0 0, .slice none 0 0]) ?_ 0 _ rfl; (with_reducible repeat (first | refine blk_drewN ?_ _ | refine blk_drew ?_ | refine blk_alloc ?_ _)); exact BK248.out) hb); have n16_ := Aside0.mk (below_step (W4 HB.out GE212.out GE224.out GE236.out GE248.out) hb); clear HO203; clear HO206; clear HO209; clear HO215; clear HO218; clear HO221; clear HO227; clear HO230; clear HO233; clear HO240; clear HO243; clear HO246; clear BK212; clear BK224; clear BK236; clear BK248; clear HB; have HO203 := n0_; have HO206 := n1_; have HO209 := n2_; have HO215 := n3_; have HO218 := n4_; have HO221 := n5_; have HO227 := n6_; have HO230 := n7_; have HO233 := n8_; have HO240 := n9_; have HO243 := n10_; have HO246 := n11_; have BK212 := n12_; have BK224 := n13_; have BK236 := n14_; have BK248 := n15_; have HB := n16_; clear n0_ n1_ n2_ n3_ n4_ n5_ n6_ n7_ n8_ n9_ n10_ n11_ n12_ n13_ n14_ n15_ n16_; (try clear hb); (try clear hb2); (try clear hk); (try clear hi)) | (go_at_call 21; (with_reducible refine (depotlaw24_awake.calls k  t250 _ ?side1 A16.out).mono ?_); (case side1 => exact GG.below HG.out (W4 HB.out GE212.out GE224.out GE236.out GE248.out)); rintro e w51 ⟨rfl, hb⟩; have n0_ := Aside0.mk (Kd.N_below (Nq HO203.out) hb); have n1_ := Aside0.mk (Kd.R_below (Rq HO206.out) hb); have n2_ := Aside0.mk (Kd.R_below (Rq HO209.out) hb); have n3_ := Aside0.mk (Kd.N_below (Nq HO215.out) hb); have n4_ := Aside0.mk (Kd.R_below (Rq HO218.out) hb); have n5_ := Aside0.mk (Kd.R_below (Rq HO221.out) hb); have n6_ := Aside0.mk (Kd.N_below (Nq HO227.out) hb); have n7_ := Aside0.mk (Kd.R_below (Rq HO230.out) hb); have n8_ := Aside0.mk (Kd.R_below (Rq HO233.out) hb); have n9_ := Aside0.mk (Kd.N_below (Nq HO240.out) hb); have n10_ := Aside0.mk (Kd.R_below (Rq HO243.out) hb); have n11_ := Aside0.mk (Kd.R_below (Rq HO246.out) hb); have n12_ := Aside0.mk (blk_below (g := gb212) (Bq BK212.out) hb); have n13_ := Aside0.mk (blk_below (g := gb224) (Bq BK224.out) hb); have n14_ := Aside0.mk (blk_below (g := gb236) (Bq BK236.out) hb); have n15_ := Aside0.mk (blk_below (g := gb248) (Bq BK248.out) hb); have n16_ := Aside0.mk (below_step (W4 HB.out GE212.out GE224.out GE236.out GE248.out) hb); clear HO203; clear HO206; clear HO209; clear HO215; clear HO218; clear HO221; clear HO227; clear HO230; clear HO233; clear HO240; clear HO243; clear HO246; clear BK212; clear BK224; clear BK236; clear BK248; clear HB; have HO203 := n0_; have HO206 := n1_; have HO209 := n2_; have HO215 := n3_; have HO218 := n4_; have HO221 := n5_; have HO227 := n6_; have HO230 := n7_; have HO233 := n8_; have HO240 := n9_; have HO243 := n10_; have HO246 := n11_; have BK212 := n12_; have BK224 := n13_; have BK236 := n14_; have BK248 := n15_; have HB := n16_; clear n0_ n1_ n2_ n3_ n4_ n5_ n6_ n7_ n8_ n9_ n10_ n11_ n12_ n13_ n14_ n15_ n16_; (try clear hb); (try clear hb2); (try clear hk); (try clear hi)))
         go_ret
         exact ⟨by first | rfl | (simp [errW_none, errW_some] <;> rfl) | (simp [*, errW_none, errW_some] <;> rfl) | (simp [errW_none, errW_some, Go.Proofs.YtmocooihkobdjaaDoor.listNe]; done), by repeat (first | (with_reducible first | exact HB.out | apply below_alloc | apply pw_below_drewN | apply below_drew1 | refine below_set ?_ GE212.out | refine below_set ?_ GE224.out | refine below_set ?_ GE236.out | refine below_set ?_ GE248.out) | exact HB.out)⟩
        ·replace c15 := Bool.eq_false_iff.mpr c15
         subst c15
         have H1 : (some false) = some r := by rw [if_neg (show ¬ (false = true) by decide)] at H; exact H
         clear H
         have H := H1
         clear H1
         exact absurd (Option.some.inj H) (by rw [hr]; decide)
       ·rw [if_neg c13] at H
        have c13b0 : (t247 == 0) = false := beq_eq_false_iff_ne.mpr c13
        have c13b1 : (t247 != 0) = true := bne_iff_ne.mpr c13
        exact absurd (Option.some.inj H) (by rw [hr]; decide)
      ·rw [if_neg c12] at H
       have c12b0 : (t235 == 0) = false := beq_eq_false_iff_ne.mpr c12
       have c12b1 : (t235 != 0) = true := bne_iff_ne.mpr c12
       exact absurd (Option.some.inj H) (by rw [hr]; decide)
     ·rw [if_neg c11] at H
      have c11b0 : (t234 == 0) = false := beq_eq_false_iff_ne.mpr c11
      have c11b1 : (t234 != 0) = true := bne_iff_ne.mpr c11
      exact absurd (Option.some.inj H) (by rw [hr]; decide)
    ·rw [if_neg c9] at H
     have c9b0 : (t222 == 0) = false := beq_eq_false_iff_ne.mpr c9
     have c9b1 : (t222 != 0) = true := bne_iff_ne.mpr c9
     by_cases c182 : t234 = t222
     ·rw [if_pos c182] at H
      have c182b0 : (t234 == t222) = true := beq_iff_eq.mpr c182
      have c182b1 : (t234 != t222) = false := bne_eq_false_iff_eq.mpr c182
      clear c182
      replace H := Option.bind_eq_some_iff.mp H
      obtain ⟨t251, A1830, H⟩ := H
      replace H : (if t235 = (wrap64 ((wrap64 (t251 + 1)) + t223)) then ((depotlaw24_awake.f k).bind fun t252 => (some t252)) else (some false)) = some r := H
      have A183 := Aside0.mk A1830
      clear A1830
      by_cases c184 : t235 = (wrap64 ((wrap64 (t251 + 1)) + t223))
      ·rw [if_pos c184] at H
       have c184b0 : (t235 == (wrap64 ((wrap64 (t251 + 1)) + t223))) = true := beq_iff_eq.mpr c184
       have c184b1 : (t235 != (wrap64 ((wrap64 (t251 + 1)) + t223))) = false := bne_eq_false_iff_eq.mpr c184
       clear c184
       replace H := Option.bind_eq_some_iff.mp H
       obtain ⟨t252, A1850, H⟩ := H
       replace H : (some t252) = some r := H
       have A185 := Aside0.mk A1850
       clear A1850
       obtain rfl := Option.some.inj H
       go_enter Tryd.func7, Tryd.ntmps7
       go_wp2_with (first | ((with_reducible refine gate_callee (f := 19) rfl ?_); refine goesL_ (some 18) rfl rfl Tryd.func19 (by kernel_rfl) rfl #[.string a0] rfl (by (try simp only [List.map_toArray, List.map_cons, List.map_nil]); first | done | rfl | (simp only [List.length_drop, List.length_take]; rfl) | (simp; done)) ?_; (with_reducible refine (request_Read.calls k a0 t201 t204 t207 t210 t211 _ ?side1 A3.out).mono ?_); (case side1 => exact GG.below HG.out (W0 HB.out)); rintro e w186 ⟨v202, v205, v208, rfl, ho0, ho1, ho2, hb⟩; refine ⟨_, rfl, ?_⟩; have n0_ := Aside0.mk (Kd.N_lower (Kd.N_mono (ok' := fun k_ => some k_ ≠ (v205 : Value).ownBlock ∧ some k_ ≠ (v208 : Value).ownBlock) ho0 (fun k_ hk_ => ⟨hk_.2.1, hk_.2.2⟩)) (below_size (W0 HB.out))); have n1_ := Aside0.mk (Kd.R_lower (Kd.R_mono (ok' := fun k_ => True) ho1 (fun _ hk_ => trivial)) (below_size (W0 HB.out))); have n2_ := Aside0.mk (Kd.R_lower (Kd.R_mono (ok' := fun k_ => True) ho2 (fun _ hk_ => trivial)) (below_size (W0 HB.out))); have n3_ := Aside0.mk (below_step (W0 HB.out) hb); clear HB; have HO203 := n0_; have HO206 := n1_; have HO209 := n2_; have HB := n3_; clear n0_ n1_ n2_ n3_; (try clear hb); (try clear hb2); (try clear hk); (try clear hi); (try clear ho0); (try clear ho1); (try clear ho2)) | ((with_reducible refine gate_dst (N := 5) rfl ?_); refine box_event ?hg (N := 5) ?hd (cs := #[.slice none 0 0, .slice none 0 0, .slice none 0 0]) (t := 26) ?hr ?_; (case hd => rfl); (case hg => rfl); (case hr => first | (go_simp; done) | (go_simp; rfl)); intro gb212 hg w187 hbox hb; have n0_ := Aside0.mk (Kd.N_below (Kd.N_elderB (Nq HO203.out) gb212 (Nat.le_of_eq hg.symm)) hb); have n1_ := Aside0.mk (Kd.R_below (Rq HO206.out) hb); have n2_ := Aside0.mk (Kd.R_below (Rq HO209.out) hb); have n3_ := Aside0.mk (below_step (W0 HB.out) hb); have n4_ := Aside0.mk (hbox); have n5_ := Aside0.mk ((by rw [hg]; exact (below_size (W0 HB.out)) : w.heap.size ≤ gb212)); have n6_ := Aside0.mk ((by rw [hg]; exact (below_size (W0 HB.out)) : w.heap.size ≤ gb212)); clear HO203; clear HO206; clear HO209; clear HB; have HO203 := n0_; have HO206 := n1_; have HO209 := n2_; have HB := n3_; have BK212 := n4_; have GW212 := n5_; have GE212 := n6_; clear n0_ n1_ n2_ n3_ n4_ n5_ n6_; clear hb hbox hg; obtain ⟨Ao188, co188, eo188⟩ := Kd.N_slice HO203.out; subst eo188; have hcz189_0 : w187.cell? ⟨gb212, 0, none⟩ = some (.slice none 0 0) := (blk_cell BK212.out 0).trans rfl; have hcz189_1 : w187.cell? ⟨gb212, 1, none⟩ = some (.slice none 0 0) := (blk_cell BK212.out 1).trans rfl; have hcz189_2 : w187.cell? ⟨gb212, 2, none⟩ = some (.slice none 0 0) := (blk_cell BK212.out 2).trans rfl; have hfz189_0 := blk_frozen BK212.out 0; have hfz189_1 := blk_frozen BK212.out 1; have hfz189_2 := blk_frozen BK212.out 2; obtain ⟨Ao190, co190, eo190⟩ := Kd.R_slice HO206.out; subst eo190; obtain ⟨Ao191, co191, eo191⟩ := Kd.R_slice HO209.out; subst eo191) | ((with_reducible refine gate_callee (f := 19) rfl ?_); refine goesL_ (some 24) rfl rfl Tryd.func19 (by kernel_rfl) rfl #[.string a1] rfl (by (try simp only [List.map_toArray, List.map_cons, List.map_nil]); first | done | rfl | (simp only [List.length_drop, List.length_take]; rfl) | (simp; done)) ?_; (with_reducible refine (request_Read.calls k a1 t213 t216 t219 t222 t223 _ ?side1 A4.out).mono ?_); (case side1 => exact GG.below HG.out (W1 HB.out GE212.out)); rintro e w192 ⟨v214, v217, v220, rfl, ho0, ho1, ho2, hb⟩; refine ⟨_, rfl, ?_⟩; have n0_ := Aside0.mk (Kd.N_mono (Kd.N_told (Kd.N_told (Kd.N_told (Kd.N_old (by (with_reducible repeat (first | apply Kd.N_alloc | apply Kd.N_drewN | apply Kd.N_drew)); exact (Kd.N_mono (Kd.N_far (p := ⟨gb212, 2, none⟩) (Kd.N_far (p := ⟨gb212, 1, none⟩) (Kd.N_far (p := ⟨gb212, 0, none⟩) (Kd.N_mono HO203.out (fun k_ hk => (⟨hk, hk.2⟩ : _ ∧ k_ ≠ gb212))) (fun _ hk => hk.2) (.slice Ao188 t201.length co188)) (fun _ hk => hk.2) (.slice Ao190 t204.length co190)) (fun _ hk => hk.2) (.slice Ao191 t207.length co191)) (fun _ h_ => h_.1))) hb) (by first | exact Kd.N_base ho0 | exact Kd.S_base ho0)) (Kd.R_base ho1)) (Kd.R_base ho2)) (fun _ h_ => h_.1)); have n1_ := Aside0.mk (Kd.R_elder' (by (with_reducible repeat (first | apply Kd.R_alloc | apply Kd.R_drewN | apply Kd.R_drew)); exact (Kd.R_mono (Kd.R_far (p := ⟨gb212, 2, none⟩) (Kd.R_far (p := ⟨gb212, 1, none⟩) (Kd.R_far (p := ⟨gb212, 0, none⟩) (Rt HO206.out BK212.out) (fun _ hk => hk.2) (.slice Ao188 t201.length co188)) (fun _ hk => hk.2) (.slice Ao190 t204.length co190)) (fun _ hk => hk.2) (.slice Ao191 t207.length co191)) (fun _ h_ => h_.1))) (Kd.R_base ho1) hb); have n2_ := Aside0.mk (Kd.R_elder' (by (with_reducible repeat (first | apply Kd.R_alloc | apply Kd.R_drewN | apply Kd.R_drew)); exact (Kd.R_mono (Kd.R_far (p := ⟨gb212, 2, none⟩) (Kd.R_far (p := ⟨gb212, 1, none⟩) (Kd.R_far (p := ⟨gb212, 0, none⟩) (Rt HO209.out BK212.out) (fun _ hk => hk.2) (.slice Ao188 t201.length co188)) (fun _ hk => hk.2) (.slice Ao190 t204.length co190)) (fun _ hk => hk.2) (.slice Ao191 t207.length co191)) (fun _ h_ => h_.1))) (Kd.R_base ho2) hb); have n3_ := Aside0.mk (Kd.N_lower (Kd.N_mono (ok' := fun k_ => some k_ ≠ (v217 : Value).ownBlock ∧ some k_ ≠ (v220 : Value).ownBlock ∧ some k_ ≠ (.slice Ao188 t201.length co188 : Value).ownBlock ∧ some k_ ≠ (.slice Ao190 t204.length co190 : Value).ownBlock ∧ some k_ ≠ (.slice Ao191 t207.length co191 : Value).ownBlock ∧ k_ ≠ gb212) ho0 (fun k_ hk_ => ⟨hk_.2.1, hk_.2.2, (Kd.fresh' (Kd.N_lt (by (with_reducible repeat (first | apply Kd.N_alloc | apply Kd.N_drewN | apply Kd.N_drew)); exact (Kd.N_mono (Kd.N_far (p := ⟨gb212, 2, none⟩) (Kd.N_far (p := ⟨gb212, 1, none⟩) (Kd.N_far (p := ⟨gb212, 0, none⟩) (Kd.N_mono HO203.out (fun k_ hk => (⟨hk, hk.2⟩ : _ ∧ k_ ≠ gb212))) (fun _ hk => hk.2) (.slice Ao188 t201.length co188)) (fun _ hk => hk.2) (.slice Ao190 t204.length co190)) (fun _ hk => hk.2) (.slice Ao191 t207.length co191)) (fun _ h_ => h_.1)))) k_ hk_.1), (Kd.fresh' (Kd.R_lt (by (with_reducible repeat (first | apply Kd.R_alloc | apply Kd.R_drewN | apply Kd.R_drew)); exact (Kd.R_mono (Kd.R_far (p := ⟨gb212, 2, none⟩) (Kd.R_far (p := ⟨gb212, 1, none⟩) (Kd.R_far (p := ⟨gb212, 0, none⟩) (Rt HO206.out BK212.out) (fun _ hk => hk.2) (.slice Ao188 t201.length co188)) (fun _ hk => hk.2) (.slice Ao190 t204.length co190)) (fun _ hk => hk.2) (.slice Ao191 t207.length co191)) (fun _ h_ => h_.1)))) k_ hk_.1), (Kd.fresh' (Kd.R_lt (by (with_reducible repeat (first | apply Kd.R_alloc | apply Kd.R_drewN | apply Kd.R_drew)); exact (Kd.R_mono (Kd.R_far (p := ⟨gb212, 2, none⟩) (Kd.R_far (p := ⟨gb212, 1, none⟩) (Kd.R_far (p := ⟨gb212, 0, none⟩) (Rt HO209.out BK212.out) (fun _ hk => hk.2) (.slice Ao188 t201.length co188)) (fun _ hk => hk.2) (.slice Ao190 t204.length co190)) (fun _ hk => hk.2) (.slice Ao191 t207.length co191)) (fun _ h_ => h_.1)))) k_ hk_.1), (Kd.freshB (g := gb212) (o := .cells #[.slice Ao188 t201.length co188, .slice Ao190 t204.length co190, .slice Ao191 t207.length co191] 26 (0, 0)) (by (with_reducible repeat (first | refine blk_drewN ?_ _ | refine blk_drew ?_ | refine blk_alloc ?_ _)); refine blk_put (cs := #[.slice Ao188 t201.length co188, .slice Ao190 t204.length co190, .slice none 0 0]) ?_ 2 _ rfl; (with_reducible repeat (first | refine blk_drewN ?_ _ | refine blk_drew ?_ | refine blk_alloc ?_ _)); refine blk_put (cs := #[.slice Ao188 t201.length co188, .slice none 0 0, .slice none 0 0]) ?_ 1 _ rfl; (with_reducible repeat (first | refine blk_drewN ?_ _ | refine blk_drew ?_ | refine blk_alloc ?_ _)); refine blk_put (cs := #[.slice none 0 0, .slice none 0 0, .slice none 0 0]) ?_ 0 _ rfl; (with_reducible repeat (first | refine blk_drewN ?_ _ | refine blk_drew ?_ | refine blk_alloc ?_ _)); exact BK212.out) k_ hk_.1)⟩)) (below_size (W1 HB.out GE212.out))); have n4_ := Aside0.mk (Kd.R_lower (Kd.R_new' (Kd.R_mono (ok' := fun k_ => True) ho1 (fun _ hk_ => trivial)) (Kd.R_lt (by (with_reducible repeat (first | apply Kd.R_alloc | apply Kd.R_drewN | apply Kd.R_drew)); exact (Kd.R_mono (Kd.R_far (p := ⟨gb212, 2, none⟩) (Kd.R_far (p := ⟨gb212, 1, none⟩) (Kd.R_far (p := ⟨gb212, 0, none⟩) (Rt HO206.out BK212.out) (fun _ hk => hk.2) (.slice Ao188 t201.length co188)) (fun _ hk => hk.2) (.slice Ao190 t204.length co190)) (fun _ hk => hk.2) (.slice Ao191 t207.length co191)) (fun _ h_ => h_.1))))) (below_size (W1 HB.out GE212.out))); have n5_ := Aside0.mk (Kd.R_lower (Kd.R_new' (Kd.R_mono (ok' := fun k_ => True) ho2 (fun _ hk_ => trivial)) (Kd.R_lt (by (with_reducible repeat (first | apply Kd.R_alloc | apply Kd.R_drewN | apply Kd.R_drew)); exact (Kd.R_mono (Kd.R_far (p := ⟨gb212, 2, none⟩) (Kd.R_far (p := ⟨gb212, 1, none⟩) (Kd.R_far (p := ⟨gb212, 0, none⟩) (Rt HO209.out BK212.out) (fun _ hk => hk.2) (.slice Ao188 t201.length co188)) (fun _ hk => hk.2) (.slice Ao190 t204.length co190)) (fun _ hk => hk.2) (.slice Ao191 t207.length co191)) (fun _ h_ => h_.1))))) (below_size (W1 HB.out GE212.out))); have n6_ := Aside0.mk (blk_below (g := gb212) (o := .cells #[.slice Ao188 t201.length co188, .slice Ao190 t204.length co190, .slice Ao191 t207.length co191] 26 (0, 0)) (by (with_reducible repeat (first | refine blk_drewN ?_ _ | refine blk_drew ?_ | refine blk_alloc ?_ _)); refine blk_put (cs := #[.slice Ao188 t201.length co188, .slice Ao190 t204.length co190, .slice none 0 0]) ?_ 2 _ rfl; (with_reducible repeat (first | refine blk_drewN ?_ _ | refine blk_drew ?_ | refine blk_alloc ?_ _)); refine blk_put (cs := #[.slice Ao188 t201.length co188, .slice none 0 0, .slice none 0 0]) ?_ 1 _ rfl; (with_reducible repeat (first | refine blk_drewN ?_ _ | refine blk_drew ?_ | refine blk_alloc ?_ _)); refine blk_put (cs := #[.slice none 0 0, .slice none 0 0, .slice none 0 0]) ?_ 0 _ rfl; (with_reducible repeat (first | refine blk_drewN ?_ _ | refine blk_drew ?_ | refine blk_alloc ?_ _)); exact BK212.out) hb); have n7_ := Aside0.mk (below_step (W1 HB.out GE212.out) hb); clear HO203; clear HO206; clear HO209; clear BK212; clear HB; have HO203 := n0_; have HO206 := n1_; have HO209 := n2_; have HO215 := n3_; have HO218 := n4_; have HO221 := n5_; have BK212 := n6_; have HB := n7_; clear n0_ n1_ n2_ n3_ n4_ n5_ n6_ n7_; (try clear hb); (try clear hb2); (try clear hk); (try clear hi); (try clear ho0); (try clear ho1); (try clear ho2)) | ((with_reducible refine gate_dst (N := 8) rfl ?_); refine box_event ?hg (N := 8) ?hd (cs := #[.slice none 0 0, .slice none 0 0, .slice none 0 0]) (t := 26) ?hr ?_; (case hd => rfl); (case hg => rfl); (case hr => first | (go_simp; done) | (go_simp; rfl)); intro gb224 hg w193 hbox hb; have n0_ := Aside0.mk (Kd.N_below (Kd.N_elderB (Nq HO203.out) gb224 (Nat.le_of_eq hg.symm)) hb); have n1_ := Aside0.mk (Kd.R_below (Rq HO206.out) hb); have n2_ := Aside0.mk (Kd.R_below (Rq HO209.out) hb); have n3_ := Aside0.mk (Kd.N_below (Kd.N_elderB (Nq HO215.out) gb224 (Nat.le_of_eq hg.symm)) hb); have n4_ := Aside0.mk (Kd.R_below (Rq HO218.out) hb); have n5_ := Aside0.mk (Kd.R_below (Rq HO221.out) hb); have n6_ := Aside0.mk (blk_below (g := gb212) (Bq BK212.out) hb); have n7_ := Aside0.mk (below_step (W1 HB.out GE212.out) hb); have n8_ := Aside0.mk (hbox); have n9_ := Aside0.mk ((by rw [hg]; exact (below_size (W1 HB.out GE212.out)) : w.heap.size ≤ gb224)); have n10_ := Aside0.mk ((by rw [hg]; exact (below_size (W1 HB.out GE212.out)) : w.heap.size ≤ gb224)); have n11_ := Aside0.mk ((by rw [hg]; exact Nat.ne_of_lt (blk_lt (g := gb212) (Bq BK212.out)) : gb212 ≠ gb224)); have n12_ := Aside0.mk ((by rw [hg]; exact Nat.ne_of_gt (blk_lt (g := gb212) (Bq BK212.out)) : gb224 ≠ gb212)); clear HO203; clear HO206; clear HO209; clear HO215; clear HO218; clear HO221; clear BK212; clear HB; have HO203 := n0_; have HO206 := n1_; have HO209 := n2_; have HO215 := n3_; have HO218 := n4_; have HO221 := n5_; have BK212 := n6_; have HB := n7_; have BK224 := n8_; have GW224 := n9_; have GE224 := n10_; have NB212_224 := n11_; have NB224_212 := n12_; clear n0_ n1_ n2_ n3_ n4_ n5_ n6_ n7_ n8_ n9_ n10_ n11_ n12_; clear hb hbox hg; obtain ⟨Ao194, co194, eo194⟩ := Kd.N_slice HO215.out; subst eo194; have hnb195 := NB224_212.out; have hnc195 := NB212_224.out; have hcz196_0 : w193.cell? ⟨gb224, 0, none⟩ = some (.slice none 0 0) := (blk_cell BK224.out 0).trans rfl; have hcz196_1 : w193.cell? ⟨gb224, 1, none⟩ = some (.slice none 0 0) := (blk_cell BK224.out 1).trans rfl; have hcz196_2 : w193.cell? ⟨gb224, 2, none⟩ = some (.slice none 0 0) := (blk_cell BK224.out 2).trans rfl; have hfz196_0 := blk_frozen BK224.out 0; have hfz196_1 := blk_frozen BK224.out 1; have hfz196_2 := blk_frozen BK224.out 2; obtain ⟨Ao197, co197, eo197⟩ := Kd.R_slice HO218.out; subst eo197; obtain ⟨Ao198, co198, eo198⟩ := Kd.R_slice HO221.out; subst eo198) | ((with_reducible refine gate_callee (f := 19) rfl ?_); refine goesL_ (some 33) rfl rfl Tryd.func19 (by kernel_rfl) rfl #[.string ((a0 ++ (⟨#[10]⟩ : ByteArray)) ++ a1)] rfl (by (try simp only [List.map_toArray, List.map_cons, List.map_nil]); first | done | rfl | (simp only [List.length_drop, List.length_take]; rfl) | (simp; done)) ?_; (with_reducible refine (request_Read.calls k ((a0 ++ (⟨#[10]⟩ : ByteArray)) ++ a1) t225 t228 t231 t234 t235 _ ?side1 A7.out).mono ?_); (case side1 => exact GG.below HG.out (W2 HB.out GE212.out GE224.out)); rintro e w199 ⟨v226, v229, v232, rfl, ho0, ho1, ho2, hb⟩; refine ⟨_, rfl, ?_⟩; have n0_ := Aside0.mk (Kd.N_mono (Kd.N_told (Kd.N_told (Kd.N_told (Kd.N_old (by (with_reducible repeat (first | apply Kd.N_alloc | apply Kd.N_drewN | apply Kd.N_drew)); exact (Kd.N_mono (Kd.N_far (p := ⟨gb224, 2, none⟩) (Kd.N_far (p := ⟨gb224, 1, none⟩) (Kd.N_far (p := ⟨gb224, 0, none⟩) (Kd.N_mono HO203.out (fun k_ hk => (⟨hk, hk.2⟩ : _ ∧ k_ ≠ gb224))) (fun _ hk => hk.2) (.slice Ao194 t213.length co194)) (fun _ hk => hk.2) (.slice Ao197 t216.length co197)) (fun _ hk => hk.2) (.slice Ao198 t219.length co198)) (fun _ h_ => h_.1))) hb) (by first | exact Kd.N_base ho0 | exact Kd.S_base ho0)) (Kd.R_base ho1)) (Kd.R_base ho2)) (fun _ h_ => h_.1)); have n1_ := Aside0.mk (Kd.R_elder' (by (with_reducible repeat (first | apply Kd.R_alloc | apply Kd.R_drewN | apply Kd.R_drew)); exact (Kd.R_mono (Kd.R_far (p := ⟨gb224, 2, none⟩) (Kd.R_far (p := ⟨gb224, 1, none⟩) (Kd.R_far (p := ⟨gb224, 0, none⟩) (Rt HO206.out BK224.out) (fun _ hk => hk.2) (.slice Ao194 t213.length co194)) (fun _ hk => hk.2) (.slice Ao197 t216.length co197)) (fun _ hk => hk.2) (.slice Ao198 t219.length co198)) (fun _ h_ => h_.1))) (Kd.R_base ho1) hb); have n2_ := Aside0.mk (Kd.R_elder' (by (with_reducible repeat (first | apply Kd.R_alloc | apply Kd.R_drewN | apply Kd.R_drew)); exact (Kd.R_mono (Kd.R_far (p := ⟨gb224, 2, none⟩) (Kd.R_far (p := ⟨gb224, 1, none⟩) (Kd.R_far (p := ⟨gb224, 0, none⟩) (Rt HO209.out BK224.out) (fun _ hk => hk.2) (.slice Ao194 t213.length co194)) (fun _ hk => hk.2) (.slice Ao197 t216.length co197)) (fun _ hk => hk.2) (.slice Ao198 t219.length co198)) (fun _ h_ => h_.1))) (Kd.R_base ho2) hb); have n3_ := Aside0.mk (Kd.N_mono (Kd.N_told (Kd.N_told (Kd.N_told (Kd.N_old (by (with_reducible repeat (first | apply Kd.N_alloc | apply Kd.N_drewN | apply Kd.N_drew)); exact (Kd.N_mono (Kd.N_far (p := ⟨gb224, 2, none⟩) (Kd.N_far (p := ⟨gb224, 1, none⟩) (Kd.N_far (p := ⟨gb224, 0, none⟩) (Kd.N_mono HO215.out (fun k_ hk => (⟨hk, hk.2⟩ : _ ∧ k_ ≠ gb224))) (fun _ hk => hk.2) (.slice Ao194 t213.length co194)) (fun _ hk => hk.2) (.slice Ao197 t216.length co197)) (fun _ hk => hk.2) (.slice Ao198 t219.length co198)) (fun _ h_ => h_.1))) hb) (by first | exact Kd.N_base ho0 | exact Kd.S_base ho0)) (Kd.R_base ho1)) (Kd.R_base ho2)) (fun _ h_ => h_.1)); have n4_ := Aside0.mk (Kd.R_elder' (by (with_reducible repeat (first | apply Kd.R_alloc | apply Kd.R_drewN | apply Kd.R_drew)); exact (Kd.R_mono (Kd.R_far (p := ⟨gb224, 2, none⟩) (Kd.R_far (p := ⟨gb224, 1, none⟩) (Kd.R_far (p := ⟨gb224, 0, none⟩) (Rt HO218.out BK224.out) (fun _ hk => hk.2) (.slice Ao194 t213.length co194)) (fun _ hk => hk.2) (.slice Ao197 t216.length co197)) (fun _ hk => hk.2) (.slice Ao198 t219.length co198)) (fun _ h_ => h_.1))) (Kd.R_base ho1) hb); have n5_ := Aside0.mk (Kd.R_elder' (by (with_reducible repeat (first | apply Kd.R_alloc | apply Kd.R_drewN | apply Kd.R_drew)); exact (Kd.R_mono (Kd.R_far (p := ⟨gb224, 2, none⟩) (Kd.R_far (p := ⟨gb224, 1, none⟩) (Kd.R_far (p := ⟨gb224, 0, none⟩) (Rt HO221.out BK224.out) (fun _ hk => hk.2) (.slice Ao194 t213.length co194)) (fun _ hk => hk.2) (.slice Ao197 t216.length co197)) (fun _ hk => hk.2) (.slice Ao198 t219.length co198)) (fun _ h_ => h_.1))) (Kd.R_base ho2) hb); have n6_ := Aside0.mk (Kd.N_lower (Kd.N_mono (ok' := fun k_ => some k_ ≠ (v229 : Value).ownBlock ∧ some k_ ≠ (v232 : Value).ownBlock ∧ some k_ ≠ (.slice Ao188 t201.length co188 : Value).ownBlock ∧ some k_ ≠ (.slice Ao190 t204.length co190 : Value).ownBlock ∧ some k_ ≠ (.slice Ao191 t207.length co191 : Value).ownBlock ∧ some k_ ≠ (.slice Ao194 t213.length co194 : Value).ownBlock ∧ some k_ ≠ (.slice Ao197 t216.length co197 : Value).ownBlock ∧ some k_ ≠ (.slice Ao198 t219.length co198 : Value).ownBlock ∧ k_ ≠ gb212 ∧ k_ ≠ gb224) ho0 (fun k_ hk_ => ⟨hk_.2.1, hk_.2.2, (Kd.fresh' (Kd.N_lt (by (with_reducible repeat (first | apply Kd.N_alloc | apply Kd.N_drewN | apply Kd.N_drew)); exact (Kd.N_mono (Kd.N_far (p := ⟨gb224, 2, none⟩) (Kd.N_far (p := ⟨gb224, 1, none⟩) (Kd.N_far (p := ⟨gb224, 0, none⟩) (Kd.N_mono HO203.out (fun k_ hk => (⟨hk, hk.2⟩ : _ ∧ k_ ≠ gb224))) (fun _ hk => hk.2) (.slice Ao194 t213.length co194)) (fun _ hk => hk.2) (.slice Ao197 t216.length co197)) (fun _ hk => hk.2) (.slice Ao198 t219.length co198)) (fun _ h_ => h_.1)))) k_ hk_.1), (Kd.fresh' (Kd.R_lt (by (with_reducible repeat (first | apply Kd.R_alloc | apply Kd.R_drewN | apply Kd.R_drew)); exact (Kd.R_mono (Kd.R_far (p := ⟨gb224, 2, none⟩) (Kd.R_far (p := ⟨gb224, 1, none⟩) (Kd.R_far (p := ⟨gb224, 0, none⟩) (Rt HO206.out BK224.out) (fun _ hk => hk.2) (.slice Ao194 t213.length co194)) (fun _ hk => hk.2) (.slice Ao197 t216.length co197)) (fun _ hk => hk.2) (.slice Ao198 t219.length co198)) (fun _ h_ => h_.1)))) k_ hk_.1), (Kd.fresh' (Kd.R_lt (by (with_reducible repeat (first | apply Kd.R_alloc | apply Kd.R_drewN | apply Kd.R_drew)); exact (Kd.R_mono (Kd.R_far (p := ⟨gb224, 2, none⟩) (Kd.R_far (p := ⟨gb224, 1, none⟩) (Kd.R_far (p := ⟨gb224, 0, none⟩) (Rt HO209.out BK224.out) (fun _ hk => hk.2) (.slice Ao194 t213.length co194)) (fun _ hk => hk.2) (.slice Ao197 t216.length co197)) (fun _ hk => hk.2) (.slice Ao198 t219.length co198)) (fun _ h_ => h_.1)))) k_ hk_.1), (Kd.fresh' (Kd.N_lt (by (with_reducible repeat (first | apply Kd.N_alloc | apply Kd.N_drewN | apply Kd.N_drew)); exact (Kd.N_mono (Kd.N_far (p := ⟨gb224, 2, none⟩) (Kd.N_far (p := ⟨gb224, 1, none⟩) (Kd.N_far (p := ⟨gb224, 0, none⟩) (Kd.N_mono HO215.out (fun k_ hk => (⟨hk, hk.2⟩ : _ ∧ k_ ≠ gb224))) (fun _ hk => hk.2) (.slice Ao194 t213.length co194)) (fun _ hk => hk.2) (.slice Ao197 t216.length co197)) (fun _ hk => hk.2) (.slice Ao198 t219.length co198)) (fun _ h_ => h_.1)))) k_ hk_.1), (Kd.fresh' (Kd.R_lt (by (with_reducible repeat (first | apply Kd.R_alloc | apply Kd.R_drewN | apply Kd.R_drew)); exact (Kd.R_mono (Kd.R_far (p := ⟨gb224, 2, none⟩) (Kd.R_far (p := ⟨gb224, 1, none⟩) (Kd.R_far (p := ⟨gb224, 0, none⟩) (Rt HO218.out BK224.out) (fun _ hk => hk.2) (.slice Ao194 t213.length co194)) (fun _ hk => hk.2) (.slice Ao197 t216.length co197)) (fun _ hk => hk.2) (.slice Ao198 t219.length co198)) (fun _ h_ => h_.1)))) k_ hk_.1), (Kd.fresh' (Kd.R_lt (by (with_reducible repeat (first | apply Kd.R_alloc | apply Kd.R_drewN | apply Kd.R_drew)); exact (Kd.R_mono (Kd.R_far (p := ⟨gb224, 2, none⟩) (Kd.R_far (p := ⟨gb224, 1, none⟩) (Kd.R_far (p := ⟨gb224, 0, none⟩) (Rt HO221.out BK224.out) (fun _ hk => hk.2) (.slice Ao194 t213.length co194)) (fun _ hk => hk.2) (.slice Ao197 t216.length co197)) (fun _ hk => hk.2) (.slice Ao198 t219.length co198)) (fun _ h_ => h_.1)))) k_ hk_.1), (Kd.freshB (g := gb212) (o := .cells #[.slice Ao188 t201.length co188, .slice Ao190 t204.length co190, .slice Ao191 t207.length co191] 26 (0, 0)) (by (with_reducible repeat (first | refine blk_drewN ?_ _ | refine blk_drew ?_ | refine blk_alloc ?_ _)); refine blk_far ?_ NB212_224.out _; (with_reducible repeat (first | refine blk_drewN ?_ _ | refine blk_drew ?_ | refine blk_alloc ?_ _)); refine blk_far ?_ NB212_224.out _; (with_reducible repeat (first | refine blk_drewN ?_ _ | refine blk_drew ?_ | refine blk_alloc ?_ _)); refine blk_far ?_ NB212_224.out _; (with_reducible repeat (first | refine blk_drewN ?_ _ | refine blk_drew ?_ | refine blk_alloc ?_ _)); exact BK212.out) k_ hk_.1), (Kd.freshB (g := gb224) (o := .cells #[.slice Ao194 t213.length co194, .slice Ao197 t216.length co197, .slice Ao198 t219.length co198] 26 (0, 0)) (by (with_reducible repeat (first | refine blk_drewN ?_ _ | refine blk_drew ?_ | refine blk_alloc ?_ _)); refine blk_put (cs := #[.slice Ao194 t213.length co194, .slice Ao197 t216.length co197, .slice none 0 0]) ?_ 2 _ rfl; (with_reducible repeat (first | refine blk_drewN ?_ _ | refine blk_drew ?_ | refine blk_alloc ?_ _)); refine blk_put (cs := #[.slice Ao194 t213.length co194, .slice none 0 0, .slice none 0 0]) ?_ 1 _ rfl; (with_reducible repeat (first | refine blk_drewN ?_ _ | refine blk_drew ?_ | refine blk_alloc ?_ _)); refine blk_put (cs := #[.slice none 0 0, .slice none 0 0, .slice none 0 0]) ?_ 0 _ rfl; (with_reducible repeat (first | refine blk_drewN ?_ _ | refine blk_drew ?_ | refine blk_alloc ?_ _)); exact BK224.out) k_ hk_.1)⟩)) (below_size (W2 HB.out GE212.out GE224.out))); have n7_ := Aside0.mk (Kd.R_lower (Kd.R_new' (Kd.R_new' (Kd.R_mono (ok' := fun k_ => True) ho1 (fun _ hk_ => trivial)) (Kd.R_lt (by (with_reducible repeat (first | apply Kd.R_alloc | apply Kd.R_drewN | apply Kd.R_drew)); exact (Kd.R_mono (Kd.R_far (p := ⟨gb224, 2, none⟩) (Kd.R_far (p := ⟨gb224, 1, none⟩) (Kd.R_far (p := ⟨gb224, 0, none⟩) (Rt HO206.out BK224.out) (fun _ hk => hk.2) (.slice Ao194 t213.length co194)) (fun _ hk => hk.2) (.slice Ao197 t216.length co197)) (fun _ hk => hk.2) (.slice Ao198 t219.length co198)) (fun _ h_ => h_.1))))) (Kd.R_lt (by (with_reducible repeat (first | apply Kd.R_alloc | apply Kd.R_drewN | apply Kd.R_drew)); exact (Kd.R_mono (Kd.R_far (p := ⟨gb224, 2, none⟩) (Kd.R_far (p := ⟨gb224, 1, none⟩) (Kd.R_far (p := ⟨gb224, 0, none⟩) (Rt HO218.out BK224.out) (fun _ hk => hk.2) (.slice Ao194 t213.length co194)) (fun _ hk => hk.2) (.slice Ao197 t216.length co197)) (fun _ hk => hk.2) (.slice Ao198 t219.length co198)) (fun _ h_ => h_.1))))) (below_size (W2 HB.out GE212.out GE224.out))); have n8_ := Aside0.mk (Kd.R_lower (Kd.R_new' (Kd.R_new' (Kd.R_mono (ok' := fun k_ => True) ho2 (fun _ hk_ => trivial)) (Kd.R_lt (by (with_reducible repeat (first | apply Kd.R_alloc | apply Kd.R_drewN | apply Kd.R_drew)); exact (Kd.R_mono (Kd.R_far (p := ⟨gb224, 2, none⟩) (Kd.R_far (p := ⟨gb224, 1, none⟩) (Kd.R_far (p := ⟨gb224, 0, none⟩) (Rt HO209.out BK224.out) (fun _ hk => hk.2) (.slice Ao194 t213.length co194)) (fun _ hk => hk.2) (.slice Ao197 t216.length co197)) (fun _ hk => hk.2) (.slice Ao198 t219.length co198)) (fun _ h_ => h_.1))))) (Kd.R_lt (by (with_reducible repeat (first | apply Kd.R_alloc | apply Kd.R_drewN | apply Kd.R_drew)); exact (Kd.R_mono (Kd.R_far (p := ⟨gb224, 2, none⟩) (Kd.R_far (p := ⟨gb224, 1, none⟩) (Kd.R_far (p := ⟨gb224, 0, none⟩) (Rt HO221.out BK224.out) (fun _ hk => hk.2) (.slice Ao194 t213.length co194)) (fun _ hk => hk.2) (.slice Ao197 t216.length co197)) (fun _ hk => hk.2) (.slice Ao198 t219.length co198)) (fun _ h_ => h_.1))))) (below_size (W2 HB.out GE212.out GE224.out))); have n9_ := Aside0.mk (blk_below (g := gb212) (o := .cells #[.slice Ao188 t201.length co188, .slice Ao190 t204.length co190, .slice Ao191 t207.length co191] 26 (0, 0)) (by (with_reducible repeat (first | refine blk_drewN ?_ _ | refine blk_drew ?_ | refine blk_alloc ?_ _)); refine blk_far ?_ NB212_224.out _; (with_reducible repeat (first | refine blk_drewN ?_ _ | refine blk_drew ?_ | refine blk_alloc ?_ _)); refine blk_far ?_ NB212_224.out _; (with_reducible repeat (first | refine blk_drewN ?_ _ | refine blk_drew ?_ | refine blk_alloc ?_ _)); refine blk_far ?_ NB212_224.out _; (with_reducible repeat (first | refine blk_drewN ?_ _ | refine blk_drew ?_ | refine blk_alloc ?_ _)); exact BK212.out) hb); have n10_ := Aside0.mk (blk_below (g := gb224) (o := .cells #[.slice Ao194 t213.length co194, .slice Ao197 t216.length co197, .slice Ao198 t219.length co198] 26 (0, 0)) (by (with_reducible repeat (first | refine blk_drewN ?_ _ | refine blk_drew ?_ | refine blk_alloc ?_ _)); refine blk_put (cs := #[.slice Ao194 t213.length co194, .slice Ao197 t216.length co197, .slice none 0 0]) ?_ 2 _ rfl; (with_reducible repeat (first | refine blk_drewN ?_ _ | refine blk_drew ?_ | refine blk_alloc ?_ _)); refine blk_put (cs := #[.slice Ao194 t213.length co194, .slice none 0 0, .slice none 0 0]) ?_ 1 _ rfl; (with_reducible repeat (first | refine blk_drewN ?_ _ | refine blk_drew ?_ | refine blk_alloc ?_ _)); refine blk_put (cs := #[.slice none 0 0, .slice none 0 0, .slice none 0 0]) ?_ 0 _ rfl; (with_reducible repeat (first | refine blk_drewN ?_ _ | refine blk_drew ?_ | refine blk_alloc ?_ _)); exact BK224.out) hb); have n11_ := Aside0.mk (below_step (W2 HB.out GE212.out GE224.out) hb); clear HO203; clear HO206; clear HO209; clear HO215; clear HO218; clear HO221; clear BK212; clear BK224; clear HB; have HO203 := n0_; have HO206 := n1_; have HO209 := n2_; have HO215 := n3_; have HO218 := n4_; have HO221 := n5_; have HO227 := n6_; have HO230 := n7_; have HO233 := n8_; have BK212 := n9_; have BK224 := n10_; have HB := n11_; clear n0_ n1_ n2_ n3_ n4_ n5_ n6_ n7_ n8_ n9_ n10_ n11_; (try clear hb); (try clear hb2); (try clear hk); (try clear hi); (try clear ho0); (try clear ho1); (try clear ho2)) | ((with_reducible refine gate_dst (N := 11) rfl ?_); refine box_event ?hg (N := 11) ?hd (cs := #[.slice none 0 0, .slice none 0 0, .slice none 0 0]) (t := 26) ?hr ?_; (case hd => rfl); (case hg => rfl); (case hr => first | (go_simp; done) | (go_simp; rfl)); intro gb236 hg w200 hbox hb; have n0_ := Aside0.mk (Kd.N_below (Kd.N_elderB (Nq HO203.out) gb236 (Nat.le_of_eq hg.symm)) hb); have n1_ := Aside0.mk (Kd.R_below (Rq HO206.out) hb); have n2_ := Aside0.mk (Kd.R_below (Rq HO209.out) hb); have n3_ := Aside0.mk (Kd.N_below (Kd.N_elderB (Nq HO215.out) gb236 (Nat.le_of_eq hg.symm)) hb); have n4_ := Aside0.mk (Kd.R_below (Rq HO218.out) hb); have n5_ := Aside0.mk (Kd.R_below (Rq HO221.out) hb); have n6_ := Aside0.mk (Kd.N_below (Kd.N_elderB (Nq HO227.out) gb236 (Nat.le_of_eq hg.symm)) hb); have n7_ := Aside0.mk (Kd.R_below (Rq HO230.out) hb); have n8_ := Aside0.mk (Kd.R_below (Rq HO233.out) hb); have n9_ := Aside0.mk (blk_below (g := gb212) (Bq BK212.out) hb); have n10_ := Aside0.mk (blk_below (g := gb224) (Bq BK224.out) hb); have n11_ := Aside0.mk (below_step (W2 HB.out GE212.out GE224.out) hb); have n12_ := Aside0.mk (hbox); have n13_ := Aside0.mk ((by rw [hg]; exact (below_size (W2 HB.out GE212.out GE224.out)) : w.heap.size ≤ gb236)); have n14_ := Aside0.mk ((by rw [hg]; exact (below_size (W2 HB.out GE212.out GE224.out)) : w.heap.size ≤ gb236)); have n15_ := Aside0.mk ((by rw [hg]; exact Nat.ne_of_lt (blk_lt (g := gb212) (Bq BK212.out)) : gb212 ≠ gb236)); have n16_ := Aside0.mk ((by rw [hg]; exact Nat.ne_of_gt (blk_lt (g := gb212) (Bq BK212.out)) : gb236 ≠ gb212)); have n17_ := Aside0.mk ((by rw [hg]; exact Nat.ne_of_lt (blk_lt (g := gb224) (Bq BK224.out)) : gb224 ≠ gb236)); have n18_ := Aside0.mk ((by rw [hg]; exact Nat.ne_of_gt (blk_lt (g := gb224) (Bq BK224.out)) : gb236 ≠ gb224)); clear HO203; clear HO206; clear HO209; clear HO215; clear HO218; clear HO221; clear HO227; clear HO230; clear HO233; clear BK212; clear BK224; clear HB; have HO203 := n0_; have HO206 := n1_; have HO209 := n2_; have HO215 := n3_; have HO218 := n4_; have HO221 := n5_; have HO227 := n6_; have HO230 := n7_; have HO233 := n8_; have BK212 := n9_; have BK224 := n10_; have HB := n11_; have BK236 := n12_; have GW236 := n13_; have GE236 := n14_; have NB212_236 := n15_; have NB236_212 := n16_; have NB224_236 := n17_; have NB236_224 := n18_; clear n0_ n1_ n2_ n3_ n4_ n5_ n6_ n7_ n8_ n9_ n10_ n11_ n12_ n13_ n14_ n15_ n16_ n17_ n18_; clear hb hbox hg; obtain ⟨Ao201, co201, eo201⟩ := Kd.N_slice HO227.out; subst eo201; have hnb202 := NB236_212.out; have hnc202 := NB212_236.out; have hnb203 := NB236_224.out; have hnc203 := NB224_236.out; have hcz204_0 : w200.cell? ⟨gb236, 0, none⟩ = some (.slice none 0 0) := (blk_cell BK236.out 0).trans rfl; have hcz204_1 : w200.cell? ⟨gb236, 1, none⟩ = some (.slice none 0 0) := (blk_cell BK236.out 1).trans rfl; have hcz204_2 : w200.cell? ⟨gb236, 2, none⟩ = some (.slice none 0 0) := (blk_cell BK236.out 2).trans rfl; have hfz204_0 := blk_frozen BK236.out 0; have hfz204_1 := blk_frozen BK236.out 1; have hfz204_2 := blk_frozen BK236.out 2; obtain ⟨Ao205, co205, eo205⟩ := Kd.R_slice HO230.out; subst eo205; obtain ⟨Ao206, co206, eo206⟩ := Kd.R_slice HO233.out; subst eo206) | (go_at_call 22; (with_reducible refine (depotlaw24_feeds.calls k a0 t251 _ A183.out).mono ?_); rintro e w' ⟨rfl, ⟨nd, rfl⟩⟩) | (go_at_call 21; (with_reducible refine (depotlaw24_awake.calls k  t252 _ ?side1 A185.out).mono ?_); (case side1 => exact GG.below HG.out (W3 HB.out GE212.out GE224.out GE236.out)); rintro e w207 ⟨rfl, hb⟩; have n0_ := Aside0.mk (Kd.N_below (by (with_reducible repeat (first | apply Kd.N_alloc | apply Kd.N_drewN | apply Kd.N_drew)); exact (Kd.N_mono (Kd.N_far (p := ⟨gb236, 2, none⟩) (Kd.N_far (p := ⟨gb236, 1, none⟩) (Kd.N_far (p := ⟨gb236, 0, none⟩) (Kd.N_mono HO203.out (fun k_ hk => (⟨hk, hk.2⟩ : _ ∧ k_ ≠ gb236))) (fun _ hk => hk.2) (.slice Ao201 t225.length co201)) (fun _ hk => hk.2) (.slice Ao205 t228.length co205)) (fun _ hk => hk.2) (.slice Ao206 t231.length co206)) (fun _ h_ => h_.1))) hb); have n1_ := Aside0.mk (Kd.R_below (by (with_reducible repeat (first | apply Kd.R_alloc | apply Kd.R_drewN | apply Kd.R_drew)); exact (Kd.R_mono (Kd.R_far (p := ⟨gb236, 2, none⟩) (Kd.R_far (p := ⟨gb236, 1, none⟩) (Kd.R_far (p := ⟨gb236, 0, none⟩) (Rt HO206.out BK236.out) (fun _ hk => hk.2) (.slice Ao201 t225.length co201)) (fun _ hk => hk.2) (.slice Ao205 t228.length co205)) (fun _ hk => hk.2) (.slice Ao206 t231.length co206)) (fun _ h_ => h_.1))) hb); have n2_ := Aside0.mk (Kd.R_below (by (with_reducible repeat (first | apply Kd.R_alloc | apply Kd.R_drewN | apply Kd.R_drew)); exact (Kd.R_mono (Kd.R_far (p := ⟨gb236, 2, none⟩) (Kd.R_far (p := ⟨gb236, 1, none⟩) (Kd.R_far (p := ⟨gb236, 0, none⟩) (Rt HO209.out BK236.out) (fun _ hk => hk.2) (.slice Ao201 t225.length co201)) (fun _ hk => hk.2) (.slice Ao205 t228.length co205)) (fun _ hk => hk.2) (.slice Ao206 t231.length co206)) (fun _ h_ => h_.1))) hb); have n3_ := Aside0.mk (Kd.N_below (by (with_reducible repeat (first | apply Kd.N_alloc | apply Kd.N_drewN | apply Kd.N_drew)); exact (Kd.N_mono (Kd.N_far (p := ⟨gb236, 2, none⟩) (Kd.N_far (p := ⟨gb236, 1, none⟩) (Kd.N_far (p := ⟨gb236, 0, none⟩) (Kd.N_mono HO215.out (fun k_ hk => (⟨hk, hk.2⟩ : _ ∧ k_ ≠ gb236))) (fun _ hk => hk.2) (.slice Ao201 t225.length co201)) (fun _ hk => hk.2) (.slice Ao205 t228.length co205)) (fun _ hk => hk.2) (.slice Ao206 t231.length co206)) (fun _ h_ => h_.1))) hb); have n4_ := Aside0.mk (Kd.R_below (by (with_reducible repeat (first | apply Kd.R_alloc | apply Kd.R_drewN | apply Kd.R_drew)); exact (Kd.R_mono (Kd.R_far (p := ⟨gb236, 2, none⟩) (Kd.R_far (p := ⟨gb236, 1, none⟩) (Kd.R_far (p := ⟨gb236, 0, none⟩) (Rt HO218.out BK236.out) (fun _ hk => hk.2) (.slice Ao201 t225.length co201)) (fun _ hk => hk.2) (.slice Ao205 t228.length co205)) (fun _ hk => hk.2) (.slice Ao206 t231.length co206)) (fun _ h_ => h_.1))) hb); have n5_ := Aside0.mk (Kd.R_below (by (with_reducible repeat (first | apply Kd.R_alloc | apply Kd.R_drewN | apply Kd.R_drew)); exact (Kd.R_mono (Kd.R_far (p := ⟨gb236, 2, none⟩) (Kd.R_far (p := ⟨gb236, 1, none⟩) (Kd.R_far (p := ⟨gb236, 0, none⟩) (Rt HO221.out BK236.out) (fun _ hk => hk.2) (.slice Ao201 t225.length co201)) (fun _ hk => hk.2) (.slice Ao205 t228.length co205)) (fun _ hk => hk.2) (.slice Ao206 t231.length co206)) (fun _ h_ => h_.1))) hb); have n6_ := Aside0.mk (Kd.N_below (by (with_reducible repeat (first | apply Kd.N_alloc | apply Kd.N_drewN | apply Kd.N_drew)); exact (Kd.N_mono (Kd.N_far (p := ⟨gb236, 2, none⟩) (Kd.N_far (p := ⟨gb236, 1, none⟩) (Kd.N_far (p := ⟨gb236, 0, none⟩) (Kd.N_mono HO227.out (fun k_ hk => (⟨hk, hk.2⟩ : _ ∧ k_ ≠ gb236))) (fun _ hk => hk.2) (.slice Ao201 t225.length co201)) (fun _ hk => hk.2) (.slice Ao205 t228.length co205)) (fun _ hk => hk.2) (.slice Ao206 t231.length co206)) (fun _ h_ => h_.1))) hb); have n7_ := Aside0.mk (Kd.R_below (by (with_reducible repeat (first | apply Kd.R_alloc | apply Kd.R_drewN | apply Kd.R_drew)); exact (Kd.R_mono (Kd.R_far (p := ⟨gb236, 2, none⟩) (Kd.R_far (p := ⟨gb236, 1, none⟩) (Kd.R_far (p := ⟨gb236, 0, none⟩) (Rt HO230.out BK236.out) (fun _ hk => hk.2) (.slice Ao201 t225.length co201)) (fun _ hk => hk.2) (.slice Ao205 t228.length co205)) (fun _ hk => hk.2) (.slice Ao206 t231.length co206)) (fun _ h_ => h_.1))) hb); have n8_ := Aside0.mk (Kd.R_below (by (with_reducible repeat (first | apply Kd.R_alloc | apply Kd.R_drewN | apply Kd.R_drew)); exact (Kd.R_mono (Kd.R_far (p := ⟨gb236, 2, none⟩) (Kd.R_far (p := ⟨gb236, 1, none⟩) (Kd.R_far (p := ⟨gb236, 0, none⟩) (Rt HO233.out BK236.out) (fun _ hk => hk.2) (.slice Ao201 t225.length co201)) (fun _ hk => hk.2) (.slice Ao205 t228.length co205)) (fun _ hk => hk.2) (.slice Ao206 t231.length co206)) (fun _ h_ => h_.1))) hb); have n9_ := Aside0.mk (blk_below (g := gb212) (o := .cells #[.slice Ao188 t201.length co188, .slice Ao190 t204.length co190, .slice Ao191 t207.length co191] 26 (0, 0)) (by (with_reducible repeat (first | refine blk_drewN ?_ _ | refine blk_drew ?_ | refine blk_alloc ?_ _)); refine blk_far ?_ NB212_236.out _; (with_reducible repeat (first | refine blk_drewN ?_ _ | refine blk_drew ?_ | refine blk_alloc ?_ _)); refine blk_far ?_ NB212_236.out _; (with_reducible repeat (first | refine blk_drewN ?_ _ | refine blk_drew ?_ | refine blk_alloc ?_ _)); refine blk_far ?_ NB212_236.out _; (with_reducible repeat (first | refine blk_drewN ?_ _ | refine blk_drew ?_ | refine blk_alloc ?_ _)); exact BK212.out) hb); have n10_ := Aside0.mk (blk_below (g := gb224) (o := .cells #[.slice Ao194 t213.length co194, .slice Ao197 t216.length co197, .slice Ao198 t219.length co198] 26 (0, 0)) (by (with_reducible repeat (first | refine blk_drewN ?_ _ | refine blk_drew ?_ | refine blk_alloc ?_ _)); refine blk_far ?_ NB224_236.out _; (with_reducible repeat (first | refine blk_drewN ?_ _ | refine blk_drew ?_ | refine blk_alloc ?_ _)); refine blk_far ?_ NB224_236.out _; (with_reducible repeat (first | refine blk_drewN ?_ _ | refine blk_drew ?_ | refine blk_alloc ?_ _)); refine blk_far ?_ NB224_236.out _; (with_reducible repeat (first | refine blk_drewN ?_ _ | refine blk_drew ?_ | refine blk_alloc ?_ _)); exact BK224.out) hb); have n11_ := Aside0.mk (blk_below (g := gb236) (o := .cells #[.slice Ao201 t225.length co201, .slice Ao205 t228.length co205, .slice Ao206 t231.length co206] 26 (0, 0)) (by (with_reducible repeat (first | refine blk_drewN ?_ _ | refine blk_drew ?_ | refine blk_alloc ?_ _)); refine blk_put (cs := #[.slice Ao201 t225.length co201, .slice Ao205 t228.length co205, .slice none 0 0]) ?_ 2 _ rfl; (with_reducible repeat (first | refine blk_drewN ?_ _ | refine blk_drew ?_ | refine blk_alloc ?_ _)); refine blk_put (cs := #[.slice Ao201 t225.length co201, .slice none 0 0, .slice none 0 0]) ?_ 1 _ rfl; (with_reducible repeat (first | refine blk_drewN ?_ _ | refine blk_drew ?_ | refine blk_alloc ?_ _)); refine blk_put (cs := #[.slice none 0 0, .slice none 0 0, .slice none 0 0]) ?_ 0 _ rfl; (with_reducible repeat (first | refine blk_drewN ?_ _ | refine blk_drew ?_ | refine blk_alloc ?_ _)); exact BK236.out) hb); have n12_ := Aside0.mk (below_step (W3 HB.out GE212.out GE224.out GE236.out) hb); clear HO203; clear HO206; clear HO209; clear HO215; clear HO218; clear HO221; clear HO227; clear HO230; clear HO233; clear BK212; clear BK224; clear BK236; clear HB; have HO203 := n0_; have HO206 := n1_; have HO209 := n2_; have HO215 := n3_; have HO218 := n4_; have HO221 := n5_; have HO227 := n6_; have HO230 := n7_; have HO233 := n8_; have BK212 := n9_; have BK224 := n10_; have BK236 := n11_; have HB := n12_; clear n0_ n1_ n2_ n3_ n4_ n5_ n6_ n7_ n8_ n9_ n10_ n11_ n12_; (try clear hb); (try clear hb2); (try clear hk); (try clear hi)))
       go_ret
       exact ⟨by first | rfl | (simp [errW_none, errW_some] <;> rfl) | (simp [*, errW_none, errW_some] <;> rfl) | (simp [errW_none, errW_some, Go.Proofs.YtmocooihkobdjaaDoor.listNe]; done), by repeat (first | (with_reducible first | exact HB.out | apply below_alloc | apply pw_below_drewN | apply below_drew1 | refine below_set ?_ GE212.out | refine below_set ?_ GE224.out | refine below_set ?_ GE236.out) | exact HB.out)⟩
      ·rw [if_neg c184] at H
       have c184b0 : (t235 == (wrap64 ((wrap64 (t251 + 1)) + t223))) = false := beq_eq_false_iff_ne.mpr c184
       have c184b1 : (t235 != (wrap64 ((wrap64 (t251 + 1)) + t223))) = true := bne_iff_ne.mpr c184
       exact absurd (Option.some.inj H) (by rw [hr]; decide)
     ·rw [if_neg c182] at H
      have c182b0 : (t234 == t222) = false := beq_eq_false_iff_ne.mpr c182
      have c182b1 : (t234 != t222) = true := bne_iff_ne.mpr c182
      exact absurd (Option.some.inj H) (by rw [hr]; decide)
   ·rw [if_neg c8] at H
    have c8b0 : (t210 == 0) = false := beq_eq_false_iff_ne.mpr c8
    have c8b1 : (t210 != 0) = true := bne_iff_ne.mpr c8
    by_cases c250 : t234 = t210
    ·rw [if_pos c250] at H
     have c250b0 : (t234 == t210) = true := beq_iff_eq.mpr c250
     have c250b1 : (t234 != t210) = false := bne_eq_false_iff_eq.mpr c250
     clear c250
     by_cases c251 : t235 = t211
     ·rw [if_pos c251] at H
      have c251b0 : (t235 == t211) = true := beq_iff_eq.mpr c251
      have c251b1 : (t235 != t211) = false := bne_eq_false_iff_eq.mpr c251
      clear c251
      replace H := Option.bind_eq_some_iff.mp H
      obtain ⟨t237, A2520, H⟩ := H
      replace H : (some t237) = some r := H
      have A252 := Aside0.mk A2520
      clear A2520
      obtain rfl := Option.some.inj H
      go_enter Tryd.func7, Tryd.ntmps7
      go_wp2_with (first | ((with_reducible refine gate_callee (f := 19) rfl ?_); refine goesL_ (some 18) rfl rfl Tryd.func19 (by kernel_rfl) rfl #[.string a0] rfl (by (try simp only [List.map_toArray, List.map_cons, List.map_nil]); first | done | rfl | (simp only [List.length_drop, List.length_take]; rfl) | (simp; done)) ?_; (with_reducible refine (request_Read.calls k a0 t201 t204 t207 t210 t211 _ ?side1 A3.out).mono ?_); (case side1 => exact GG.below HG.out (W0 HB.out)); rintro e w253 ⟨v202, v205, v208, rfl, ho0, ho1, ho2, hb⟩; refine ⟨_, rfl, ?_⟩; have n0_ := Aside0.mk (Kd.N_lower (Kd.N_mono (ok' := fun k_ => some k_ ≠ (v205 : Value).ownBlock ∧ some k_ ≠ (v208 : Value).ownBlock) ho0 (fun k_ hk_ => ⟨hk_.2.1, hk_.2.2⟩)) (below_size (W0 HB.out))); have n1_ := Aside0.mk (Kd.R_lower (Kd.R_mono (ok' := fun k_ => True) ho1 (fun _ hk_ => trivial)) (below_size (W0 HB.out))); have n2_ := Aside0.mk (Kd.R_lower (Kd.R_mono (ok' := fun k_ => True) ho2 (fun _ hk_ => trivial)) (below_size (W0 HB.out))); have n3_ := Aside0.mk (below_step (W0 HB.out) hb); clear HB; have HO203 := n0_; have HO206 := n1_; have HO209 := n2_; have HB := n3_; clear n0_ n1_ n2_ n3_; (try clear hb); (try clear hb2); (try clear hk); (try clear hi); (try clear ho0); (try clear ho1); (try clear ho2)) | ((with_reducible refine gate_dst (N := 5) rfl ?_); refine box_event ?hg (N := 5) ?hd (cs := #[.slice none 0 0, .slice none 0 0, .slice none 0 0]) (t := 26) ?hr ?_; (case hd => rfl); (case hg => rfl); (case hr => first | (go_simp; done) | (go_simp; rfl)); intro gb212 hg w254 hbox hb; have n0_ := Aside0.mk (Kd.N_below (Kd.N_elderB (Nq HO203.out) gb212 (Nat.le_of_eq hg.symm)) hb); have n1_ := Aside0.mk (Kd.R_below (Rq HO206.out) hb); have n2_ := Aside0.mk (Kd.R_below (Rq HO209.out) hb); have n3_ := Aside0.mk (below_step (W0 HB.out) hb); have n4_ := Aside0.mk (hbox); have n5_ := Aside0.mk ((by rw [hg]; exact (below_size (W0 HB.out)) : w.heap.size ≤ gb212)); have n6_ := Aside0.mk ((by rw [hg]; exact (below_size (W0 HB.out)) : w.heap.size ≤ gb212)); clear HO203; clear HO206; clear HO209; clear HB; have HO203 := n0_; have HO206 := n1_; have HO209 := n2_; have HB := n3_; have BK212 := n4_; have GW212 := n5_; have GE212 := n6_; clear n0_ n1_ n2_ n3_ n4_ n5_ n6_; clear hb hbox hg; obtain ⟨Ao255, co255, eo255⟩ := Kd.N_slice HO203.out; subst eo255; have hcz256_0 : w254.cell? ⟨gb212, 0, none⟩ = some (.slice none 0 0) := (blk_cell BK212.out 0).trans rfl; have hcz256_1 : w254.cell? ⟨gb212, 1, none⟩ = some (.slice none 0 0) := (blk_cell BK212.out 1).trans rfl; have hcz256_2 : w254.cell? ⟨gb212, 2, none⟩ = some (.slice none 0 0) := (blk_cell BK212.out 2).trans rfl; have hfz256_0 := blk_frozen BK212.out 0; have hfz256_1 := blk_frozen BK212.out 1; have hfz256_2 := blk_frozen BK212.out 2; obtain ⟨Ao257, co257, eo257⟩ := Kd.R_slice HO206.out; subst eo257; obtain ⟨Ao258, co258, eo258⟩ := Kd.R_slice HO209.out; subst eo258) | ((with_reducible refine gate_callee (f := 19) rfl ?_); refine goesL_ (some 24) rfl rfl Tryd.func19 (by kernel_rfl) rfl #[.string a1] rfl (by (try simp only [List.map_toArray, List.map_cons, List.map_nil]); first | done | rfl | (simp only [List.length_drop, List.length_take]; rfl) | (simp; done)) ?_; (with_reducible refine (request_Read.calls k a1 t213 t216 t219 t222 t223 _ ?side1 A4.out).mono ?_); (case side1 => exact GG.below HG.out (W1 HB.out GE212.out)); rintro e w259 ⟨v214, v217, v220, rfl, ho0, ho1, ho2, hb⟩; refine ⟨_, rfl, ?_⟩; have n0_ := Aside0.mk (Kd.N_mono (Kd.N_told (Kd.N_told (Kd.N_told (Kd.N_old (by (with_reducible repeat (first | apply Kd.N_alloc | apply Kd.N_drewN | apply Kd.N_drew)); exact (Kd.N_mono (Kd.N_far (p := ⟨gb212, 2, none⟩) (Kd.N_far (p := ⟨gb212, 1, none⟩) (Kd.N_far (p := ⟨gb212, 0, none⟩) (Kd.N_mono HO203.out (fun k_ hk => (⟨hk, hk.2⟩ : _ ∧ k_ ≠ gb212))) (fun _ hk => hk.2) (.slice Ao255 t201.length co255)) (fun _ hk => hk.2) (.slice Ao257 t204.length co257)) (fun _ hk => hk.2) (.slice Ao258 t207.length co258)) (fun _ h_ => h_.1))) hb) (by first | exact Kd.N_base ho0 | exact Kd.S_base ho0)) (Kd.R_base ho1)) (Kd.R_base ho2)) (fun _ h_ => h_.1)); have n1_ := Aside0.mk (Kd.R_elder' (by (with_reducible repeat (first | apply Kd.R_alloc | apply Kd.R_drewN | apply Kd.R_drew)); exact (Kd.R_mono (Kd.R_far (p := ⟨gb212, 2, none⟩) (Kd.R_far (p := ⟨gb212, 1, none⟩) (Kd.R_far (p := ⟨gb212, 0, none⟩) (Rt HO206.out BK212.out) (fun _ hk => hk.2) (.slice Ao255 t201.length co255)) (fun _ hk => hk.2) (.slice Ao257 t204.length co257)) (fun _ hk => hk.2) (.slice Ao258 t207.length co258)) (fun _ h_ => h_.1))) (Kd.R_base ho1) hb); have n2_ := Aside0.mk (Kd.R_elder' (by (with_reducible repeat (first | apply Kd.R_alloc | apply Kd.R_drewN | apply Kd.R_drew)); exact (Kd.R_mono (Kd.R_far (p := ⟨gb212, 2, none⟩) (Kd.R_far (p := ⟨gb212, 1, none⟩) (Kd.R_far (p := ⟨gb212, 0, none⟩) (Rt HO209.out BK212.out) (fun _ hk => hk.2) (.slice Ao255 t201.length co255)) (fun _ hk => hk.2) (.slice Ao257 t204.length co257)) (fun _ hk => hk.2) (.slice Ao258 t207.length co258)) (fun _ h_ => h_.1))) (Kd.R_base ho2) hb); have n3_ := Aside0.mk (Kd.N_lower (Kd.N_mono (ok' := fun k_ => some k_ ≠ (v217 : Value).ownBlock ∧ some k_ ≠ (v220 : Value).ownBlock ∧ some k_ ≠ (.slice Ao255 t201.length co255 : Value).ownBlock ∧ some k_ ≠ (.slice Ao257 t204.length co257 : Value).ownBlock ∧ some k_ ≠ (.slice Ao258 t207.length co258 : Value).ownBlock ∧ k_ ≠ gb212) ho0 (fun k_ hk_ => ⟨hk_.2.1, hk_.2.2, (Kd.fresh' (Kd.N_lt (by (with_reducible repeat (first | apply Kd.N_alloc | apply Kd.N_drewN | apply Kd.N_drew)); exact (Kd.N_mono (Kd.N_far (p := ⟨gb212, 2, none⟩) (Kd.N_far (p := ⟨gb212, 1, none⟩) (Kd.N_far (p := ⟨gb212, 0, none⟩) (Kd.N_mono HO203.out (fun k_ hk => (⟨hk, hk.2⟩ : _ ∧ k_ ≠ gb212))) (fun _ hk => hk.2) (.slice Ao255 t201.length co255)) (fun _ hk => hk.2) (.slice Ao257 t204.length co257)) (fun _ hk => hk.2) (.slice Ao258 t207.length co258)) (fun _ h_ => h_.1)))) k_ hk_.1), (Kd.fresh' (Kd.R_lt (by (with_reducible repeat (first | apply Kd.R_alloc | apply Kd.R_drewN | apply Kd.R_drew)); exact (Kd.R_mono (Kd.R_far (p := ⟨gb212, 2, none⟩) (Kd.R_far (p := ⟨gb212, 1, none⟩) (Kd.R_far (p := ⟨gb212, 0, none⟩) (Rt HO206.out BK212.out) (fun _ hk => hk.2) (.slice Ao255 t201.length co255)) (fun _ hk => hk.2) (.slice Ao257 t204.length co257)) (fun _ hk => hk.2) (.slice Ao258 t207.length co258)) (fun _ h_ => h_.1)))) k_ hk_.1), (Kd.fresh' (Kd.R_lt (by (with_reducible repeat (first | apply Kd.R_alloc | apply Kd.R_drewN | apply Kd.R_drew)); exact (Kd.R_mono (Kd.R_far (p := ⟨gb212, 2, none⟩) (Kd.R_far (p := ⟨gb212, 1, none⟩) (Kd.R_far (p := ⟨gb212, 0, none⟩) (Rt HO209.out BK212.out) (fun _ hk => hk.2) (.slice Ao255 t201.length co255)) (fun _ hk => hk.2) (.slice Ao257 t204.length co257)) (fun _ hk => hk.2) (.slice Ao258 t207.length co258)) (fun _ h_ => h_.1)))) k_ hk_.1), (Kd.freshB (g := gb212) (o := .cells #[.slice Ao255 t201.length co255, .slice Ao257 t204.length co257, .slice Ao258 t207.length co258] 26 (0, 0)) (by (with_reducible repeat (first | refine blk_drewN ?_ _ | refine blk_drew ?_ | refine blk_alloc ?_ _)); refine blk_put (cs := #[.slice Ao255 t201.length co255, .slice Ao257 t204.length co257, .slice none 0 0]) ?_ 2 _ rfl; (with_reducible repeat (first | refine blk_drewN ?_ _ | refine blk_drew ?_ | refine blk_alloc ?_ _)); refine blk_put (cs := #[.slice Ao255 t201.length co255, .slice none 0 0, .slice none 0 0]) ?_ 1 _ rfl; (with_reducible repeat (first | refine blk_drewN ?_ _ | refine blk_drew ?_ | refine blk_alloc ?_ _)); refine blk_put (cs := #[.slice none 0 0, .slice none 0 0, .slice none 0 0]) ?_ 0 _ rfl; (with_reducible repeat (first | refine blk_drewN ?_ _ | refine blk_drew ?_ | refine blk_alloc ?_ _)); exact BK212.out) k_ hk_.1)⟩)) (below_size (W1 HB.out GE212.out))); have n4_ := Aside0.mk (Kd.R_lower (Kd.R_new' (Kd.R_mono (ok' := fun k_ => True) ho1 (fun _ hk_ => trivial)) (Kd.R_lt (by (with_reducible repeat (first | apply Kd.R_alloc | apply Kd.R_drewN | apply Kd.R_drew)); exact (Kd.R_mono (Kd.R_far (p := ⟨gb212, 2, none⟩) (Kd.R_far (p := ⟨gb212, 1, none⟩) (Kd.R_far (p := ⟨gb212, 0, none⟩) (Rt HO206.out BK212.out) (fun _ hk => hk.2) (.slice Ao255 t201.length co255)) (fun _ hk => hk.2) (.slice Ao257 t204.length co257)) (fun _ hk => hk.2) (.slice Ao258 t207.length co258)) (fun _ h_ => h_.1))))) (below_size (W1 HB.out GE212.out))); have n5_ := Aside0.mk (Kd.R_lower (Kd.R_new' (Kd.R_mono (ok' := fun k_ => True) ho2 (fun _ hk_ => trivial)) (Kd.R_lt (by (with_reducible repeat (first | apply Kd.R_alloc | apply Kd.R_drewN | apply Kd.R_drew)); exact (Kd.R_mono (Kd.R_far (p := ⟨gb212, 2, none⟩) (Kd.R_far (p := ⟨gb212, 1, none⟩) (Kd.R_far (p := ⟨gb212, 0, none⟩) (Rt HO209.out BK212.out) (fun _ hk => hk.2) (.slice Ao255 t201.length co255)) (fun _ hk => hk.2) (.slice Ao257 t204.length co257)) (fun _ hk => hk.2) (.slice Ao258 t207.length co258)) (fun _ h_ => h_.1))))) (below_size (W1 HB.out GE212.out))); have n6_ := Aside0.mk (blk_below (g := gb212) (o := .cells #[.slice Ao255 t201.length co255, .slice Ao257 t204.length co257, .slice Ao258 t207.length co258] 26 (0, 0)) (by (with_reducible repeat (first | refine blk_drewN ?_ _ | refine blk_drew ?_ | refine blk_alloc ?_ _)); refine blk_put (cs := #[.slice Ao255 t201.length co255, .slice Ao257 t204.length co257, .slice none 0 0]) ?_ 2 _ rfl; (with_reducible repeat (first | refine blk_drewN ?_ _ | refine blk_drew ?_ | refine blk_alloc ?_ _)); refine blk_put (cs := #[.slice Ao255 t201.length co255, .slice none 0 0, .slice none 0 0]) ?_ 1 _ rfl; (with_reducible repeat (first | refine blk_drewN ?_ _ | refine blk_drew ?_ | refine blk_alloc ?_ _)); refine blk_put (cs := #[.slice none 0 0, .slice none 0 0, .slice none 0 0]) ?_ 0 _ rfl; (with_reducible repeat (first | refine blk_drewN ?_ _ | refine blk_drew ?_ | refine blk_alloc ?_ _)); exact BK212.out) hb); have n7_ := Aside0.mk (below_step (W1 HB.out GE212.out) hb); clear HO203; clear HO206; clear HO209; clear BK212; clear HB; have HO203 := n0_; have HO206 := n1_; have HO209 := n2_; have HO215 := n3_; have HO218 := n4_; have HO221 := n5_; have BK212 := n6_; have HB := n7_; clear n0_ n1_ n2_ n3_ n4_ n5_ n6_ n7_; (try clear hb); (try clear hb2); (try clear hk); (try clear hi); (try clear ho0); (try clear ho1); (try clear ho2)) | ((with_reducible refine gate_dst (N := 8) rfl ?_); refine box_event ?hg (N := 8) ?hd (cs := #[.slice none 0 0, .slice none 0 0, .slice none 0 0]) (t := 26) ?hr ?_; (case hd => rfl); (case hg => rfl); (case hr => first | (go_simp; done) | (go_simp; rfl)); intro gb224 hg w260 hbox hb; have n0_ := Aside0.mk (Kd.N_below (Kd.N_elderB (Nq HO203.out) gb224 (Nat.le_of_eq hg.symm)) hb); have n1_ := Aside0.mk (Kd.R_below (Rq HO206.out) hb); have n2_ := Aside0.mk (Kd.R_below (Rq HO209.out) hb); have n3_ := Aside0.mk (Kd.N_below (Kd.N_elderB (Nq HO215.out) gb224 (Nat.le_of_eq hg.symm)) hb); have n4_ := Aside0.mk (Kd.R_below (Rq HO218.out) hb); have n5_ := Aside0.mk (Kd.R_below (Rq HO221.out) hb); have n6_ := Aside0.mk (blk_below (g := gb212) (Bq BK212.out) hb); have n7_ := Aside0.mk (below_step (W1 HB.out GE212.out) hb); have n8_ := Aside0.mk (hbox); have n9_ := Aside0.mk ((by rw [hg]; exact (below_size (W1 HB.out GE212.out)) : w.heap.size ≤ gb224)); have n10_ := Aside0.mk ((by rw [hg]; exact (below_size (W1 HB.out GE212.out)) : w.heap.size ≤ gb224)); have n11_ := Aside0.mk ((by rw [hg]; exact Nat.ne_of_lt (blk_lt (g := gb212) (Bq BK212.out)) : gb212 ≠ gb224)); have n12_ := Aside0.mk ((by rw [hg]; exact Nat.ne_of_gt (blk_lt (g := gb212) (Bq BK212.out)) : gb224 ≠ gb212)); clear HO203; clear HO206; clear HO209; clear HO215; clear HO218; clear HO221; clear BK212; clear HB; have HO203 := n0_; have HO206 := n1_; have HO209 := n2_; have HO215 := n3_; have HO218 := n4_; have HO221 := n5_; have BK212 := n6_; have HB := n7_; have BK224 := n8_; have GW224 := n9_; have GE224 := n10_; have NB212_224 := n11_; have NB224_212 := n12_; clear n0_ n1_ n2_ n3_ n4_ n5_ n6_ n7_ n8_ n9_ n10_ n11_ n12_; clear hb hbox hg; obtain ⟨Ao261, co261, eo261⟩ := Kd.N_slice HO215.out; subst eo261; have hnb262 := NB224_212.out; have hnc262 := NB212_224.out; have hcz263_0 : w260.cell? ⟨gb224, 0, none⟩ = some (.slice none 0 0) := (blk_cell BK224.out 0).trans rfl; have hcz263_1 : w260.cell? ⟨gb224, 1, none⟩ = some (.slice none 0 0) := (blk_cell BK224.out 1).trans rfl; have hcz263_2 : w260.cell? ⟨gb224, 2, none⟩ = some (.slice none 0 0) := (blk_cell BK224.out 2).trans rfl; have hfz263_0 := blk_frozen BK224.out 0; have hfz263_1 := blk_frozen BK224.out 1; have hfz263_2 := blk_frozen BK224.out 2; obtain ⟨Ao264, co264, eo264⟩ := Kd.R_slice HO218.out; subst eo264; obtain ⟨Ao265, co265, eo265⟩ := Kd.R_slice HO221.out; subst eo265) | ((with_reducible refine gate_callee (f := 19) rfl ?_); refine goesL_ (some 33) rfl rfl Tryd.func19 (by kernel_rfl) rfl #[.string ((a0 ++ (⟨#[10]⟩ : ByteArray)) ++ a1)] rfl (by (try simp only [List.map_toArray, List.map_cons, List.map_nil]); first | done | rfl | (simp only [List.length_drop, List.length_take]; rfl) | (simp; done)) ?_; (with_reducible refine (request_Read.calls k ((a0 ++ (⟨#[10]⟩ : ByteArray)) ++ a1) t225 t228 t231 t234 t235 _ ?side1 A7.out).mono ?_); (case side1 => exact GG.below HG.out (W2 HB.out GE212.out GE224.out)); rintro e w266 ⟨v226, v229, v232, rfl, ho0, ho1, ho2, hb⟩; refine ⟨_, rfl, ?_⟩; have n0_ := Aside0.mk (Kd.N_mono (Kd.N_told (Kd.N_told (Kd.N_told (Kd.N_old (by (with_reducible repeat (first | apply Kd.N_alloc | apply Kd.N_drewN | apply Kd.N_drew)); exact (Kd.N_mono (Kd.N_far (p := ⟨gb224, 2, none⟩) (Kd.N_far (p := ⟨gb224, 1, none⟩) (Kd.N_far (p := ⟨gb224, 0, none⟩) (Kd.N_mono HO203.out (fun k_ hk => (⟨hk, hk.2⟩ : _ ∧ k_ ≠ gb224))) (fun _ hk => hk.2) (.slice Ao261 t213.length co261)) (fun _ hk => hk.2) (.slice Ao264 t216.length co264)) (fun _ hk => hk.2) (.slice Ao265 t219.length co265)) (fun _ h_ => h_.1))) hb) (by first | exact Kd.N_base ho0 | exact Kd.S_base ho0)) (Kd.R_base ho1)) (Kd.R_base ho2)) (fun _ h_ => h_.1)); have n1_ := Aside0.mk (Kd.R_elder' (by (with_reducible repeat (first | apply Kd.R_alloc | apply Kd.R_drewN | apply Kd.R_drew)); exact (Kd.R_mono (Kd.R_far (p := ⟨gb224, 2, none⟩) (Kd.R_far (p := ⟨gb224, 1, none⟩) (Kd.R_far (p := ⟨gb224, 0, none⟩) (Rt HO206.out BK224.out) (fun _ hk => hk.2) (.slice Ao261 t213.length co261)) (fun _ hk => hk.2) (.slice Ao264 t216.length co264)) (fun _ hk => hk.2) (.slice Ao265 t219.length co265)) (fun _ h_ => h_.1))) (Kd.R_base ho1) hb); have n2_ := Aside0.mk (Kd.R_elder' (by (with_reducible repeat (first | apply Kd.R_alloc | apply Kd.R_drewN | apply Kd.R_drew)); exact (Kd.R_mono (Kd.R_far (p := ⟨gb224, 2, none⟩) (Kd.R_far (p := ⟨gb224, 1, none⟩) (Kd.R_far (p := ⟨gb224, 0, none⟩) (Rt HO209.out BK224.out) (fun _ hk => hk.2) (.slice Ao261 t213.length co261)) (fun _ hk => hk.2) (.slice Ao264 t216.length co264)) (fun _ hk => hk.2) (.slice Ao265 t219.length co265)) (fun _ h_ => h_.1))) (Kd.R_base ho2) hb); have n3_ := Aside0.mk (Kd.N_mono (Kd.N_told (Kd.N_told (Kd.N_told (Kd.N_old (by (with_reducible repeat (first | apply Kd.N_alloc | apply Kd.N_drewN | apply Kd.N_drew)); exact (Kd.N_mono (Kd.N_far (p := ⟨gb224, 2, none⟩) (Kd.N_far (p := ⟨gb224, 1, none⟩) (Kd.N_far (p := ⟨gb224, 0, none⟩) (Kd.N_mono HO215.out (fun k_ hk => (⟨hk, hk.2⟩ : _ ∧ k_ ≠ gb224))) (fun _ hk => hk.2) (.slice Ao261 t213.length co261)) (fun _ hk => hk.2) (.slice Ao264 t216.length co264)) (fun _ hk => hk.2) (.slice Ao265 t219.length co265)) (fun _ h_ => h_.1))) hb) (by first | exact Kd.N_base ho0 | exact Kd.S_base ho0)) (Kd.R_base ho1)) (Kd.R_base ho2)) (fun _ h_ => h_.1)); have n4_ := Aside0.mk (Kd.R_elder' (by (with_reducible repeat (first | apply Kd.R_alloc | apply Kd.R_drewN | apply Kd.R_drew)); exact (Kd.R_mono (Kd.R_far (p := ⟨gb224, 2, none⟩) (Kd.R_far (p := ⟨gb224, 1, none⟩) (Kd.R_far (p := ⟨gb224, 0, none⟩) (Rt HO218.out BK224.out) (fun _ hk => hk.2) (.slice Ao261 t213.length co261)) (fun _ hk => hk.2) (.slice Ao264 t216.length co264)) (fun _ hk => hk.2) (.slice Ao265 t219.length co265)) (fun _ h_ => h_.1))) (Kd.R_base ho1) hb); have n5_ := Aside0.mk (Kd.R_elder' (by (with_reducible repeat (first | apply Kd.R_alloc | apply Kd.R_drewN | apply Kd.R_drew)); exact (Kd.R_mono (Kd.R_far (p := ⟨gb224, 2, none⟩) (Kd.R_far (p := ⟨gb224, 1, none⟩) (Kd.R_far (p := ⟨gb224, 0, none⟩) (Rt HO221.out BK224.out) (fun _ hk => hk.2) (.slice Ao261 t213.length co261)) (fun _ hk => hk.2) (.slice Ao264 t216.length co264)) (fun _ hk => hk.2) (.slice Ao265 t219.length co265)) (fun _ h_ => h_.1))) (Kd.R_base ho2) hb); have n6_ := Aside0.mk (Kd.N_lower (Kd.N_mono (ok' := fun k_ => some k_ ≠ (v229 : Value).ownBlock ∧ some k_ ≠ (v232 : Value).ownBlock ∧ some k_ ≠ (.slice Ao255 t201.length co255 : Value).ownBlock ∧ some k_ ≠ (.slice Ao257 t204.length co257 : Value).ownBlock ∧ some k_ ≠ (.slice Ao258 t207.length co258 : Value).ownBlock ∧ some k_ ≠ (.slice Ao261 t213.length co261 : Value).ownBlock ∧ some k_ ≠ (.slice Ao264 t216.length co264 : Value).ownBlock ∧ some k_ ≠ (.slice Ao265 t219.length co265 : Value).ownBlock ∧ k_ ≠ gb212 ∧ k_ ≠ gb224) ho0 (fun k_ hk_ => ⟨hk_.2.1, hk_.2.2, (Kd.fresh' (Kd.N_lt (by (with_reducible repeat (first | apply Kd.N_alloc | apply Kd.N_drewN | apply Kd.N_drew)); exact (Kd.N_mono (Kd.N_far (p := ⟨gb224, 2, none⟩) (Kd.N_far (p := ⟨gb224, 1, none⟩) (Kd.N_far (p := ⟨gb224, 0, none⟩) (Kd.N_mono HO203.out (fun k_ hk => (⟨hk, hk.2⟩ : _ ∧ k_ ≠ gb224))) (fun _ hk => hk.2) (.slice Ao261 t213.length co261)) (fun _ hk => hk.2) (.slice Ao264 t216.length co264)) (fun _ hk => hk.2) (.slice Ao265 t219.length co265)) (fun _ h_ => h_.1)))) k_ hk_.1), (Kd.fresh' (Kd.R_lt (by (with_reducible repeat (first | apply Kd.R_alloc | apply Kd.R_drewN | apply Kd.R_drew)); exact (Kd.R_mono (Kd.R_far (p := ⟨gb224, 2, none⟩) (Kd.R_far (p := ⟨gb224, 1, none⟩) (Kd.R_far (p := ⟨gb224, 0, none⟩) (Rt HO206.out BK224.out) (fun _ hk => hk.2) (.slice Ao261 t213.length co261)) (fun _ hk => hk.2) (.slice Ao264 t216.length co264)) (fun _ hk => hk.2) (.slice Ao265 t219.length co265)) (fun _ h_ => h_.1)))) k_ hk_.1), (Kd.fresh' (Kd.R_lt (by (with_reducible repeat (first | apply Kd.R_alloc | apply Kd.R_drewN | apply Kd.R_drew)); exact (Kd.R_mono (Kd.R_far (p := ⟨gb224, 2, none⟩) (Kd.R_far (p := ⟨gb224, 1, none⟩) (Kd.R_far (p := ⟨gb224, 0, none⟩) (Rt HO209.out BK224.out) (fun _ hk => hk.2) (.slice Ao261 t213.length co261)) (fun _ hk => hk.2) (.slice Ao264 t216.length co264)) (fun _ hk => hk.2) (.slice Ao265 t219.length co265)) (fun _ h_ => h_.1)))) k_ hk_.1), (Kd.fresh' (Kd.N_lt (by (with_reducible repeat (first | apply Kd.N_alloc | apply Kd.N_drewN | apply Kd.N_drew)); exact (Kd.N_mono (Kd.N_far (p := ⟨gb224, 2, none⟩) (Kd.N_far (p := ⟨gb224, 1, none⟩) (Kd.N_far (p := ⟨gb224, 0, none⟩) (Kd.N_mono HO215.out (fun k_ hk => (⟨hk, hk.2⟩ : _ ∧ k_ ≠ gb224))) (fun _ hk => hk.2) (.slice Ao261 t213.length co261)) (fun _ hk => hk.2) (.slice Ao264 t216.length co264)) (fun _ hk => hk.2) (.slice Ao265 t219.length co265)) (fun _ h_ => h_.1)))) k_ hk_.1), (Kd.fresh' (Kd.R_lt (by (with_reducible repeat (first | apply Kd.R_alloc | apply Kd.R_drewN | apply Kd.R_drew)); exact (Kd.R_mono (Kd.R_far (p := ⟨gb224, 2, none⟩) (Kd.R_far (p := ⟨gb224, 1, none⟩) (Kd.R_far (p := ⟨gb224, 0, none⟩) (Rt HO218.out BK224.out) (fun _ hk => hk.2) (.slice Ao261 t213.length co261)) (fun _ hk => hk.2) (.slice Ao264 t216.length co264)) (fun _ hk => hk.2) (.slice Ao265 t219.length co265)) (fun _ h_ => h_.1)))) k_ hk_.1), (Kd.fresh' (Kd.R_lt (by (with_reducible repeat (first | apply Kd.R_alloc | apply Kd.R_drewN | apply Kd.R_drew)); exact (Kd.R_mono (Kd.R_far (p := ⟨gb224, 2, none⟩) (Kd.R_far (p := ⟨gb224, 1, none⟩) (Kd.R_far (p := ⟨gb224, 0, none⟩) (Rt HO221.out BK224.out) (fun _ hk => hk.2) (.slice Ao261 t213.length co261)) (fun _ hk => hk.2) (.slice Ao264 t216.length co264)) (fun _ hk => hk.2) (.slice Ao265 t219.length co265)) (fun _ h_ => h_.1)))) k_ hk_.1), (Kd.freshB (g := gb212) (o := .cells #[.slice Ao255 t201.length co255, .slice Ao257 t204.length co257, .slice Ao258 t207.length co258] 26 (0, 0)) (by (with_reducible repeat (first | refine blk_drewN ?_ _ | refine blk_drew ?_ | refine blk_alloc ?_ _)); refine blk_far ?_ NB212_224.out _; (with_reducible repeat (first | refine blk_drewN ?_ _ | refine blk_drew ?_ | refine blk_alloc ?_ _)); refine blk_far ?_ NB212_224.out _; (with_reducible repeat (first | refine blk_drewN ?_ _ | refine blk_drew ?_ | refine blk_alloc ?_ _)); refine blk_far ?_ NB212_224.out _; (with_reducible repeat (first | refine blk_drewN ?_ _ | refine blk_drew ?_ | refine blk_alloc ?_ _)); exact BK212.out) k_ hk_.1), (Kd.freshB (g := gb224) (o := .cells #[.slice Ao261 t213.length co261, .slice Ao264 t216.length co264, .slice Ao265 t219.length co265] 26 (0, 0)) (by (with_reducible repeat (first | refine blk_drewN ?_ _ | refine blk_drew ?_ | refine blk_alloc ?_ _)); refine blk_put (cs := #[.slice Ao261 t213.length co261, .slice Ao264 t216.length co264, .slice none 0 0]) ?_ 2 _ rfl; (with_reducible repeat (first | refine blk_drewN ?_ _ | refine blk_drew ?_ | refine blk_alloc ?_ _)); refine blk_put (cs := #[.slice Ao261 t213.length co261, .slice none 0 0, .slice none 0 0]) ?_ 1 _ rfl; (with_reducible repeat (first | refine blk_drewN ?_ _ | refine blk_drew ?_ | refine blk_alloc ?_ _)); refine blk_put (cs := #[.slice none 0 0, .slice none 0 0, .slice none 0 0]) ?_ 0 _ rfl; (with_reducible repeat (first | refine blk_drewN ?_ _ | refine blk_drew ?_ | refine blk_alloc ?_ _)); exact BK224.out) k_ hk_.1)⟩)) (below_size (W2 HB.out GE212.out GE224.out))); have n7_ := Aside0.mk (Kd.R_lower (Kd.R_new' (Kd.R_new' (Kd.R_mono (ok' := fun k_ => True) ho1 (fun _ hk_ => trivial)) (Kd.R_lt (by (with_reducible repeat (first | apply Kd.R_alloc | apply Kd.R_drewN | apply Kd.R_drew)); exact (Kd.R_mono (Kd.R_far (p := ⟨gb224, 2, none⟩) (Kd.R_far (p := ⟨gb224, 1, none⟩) (Kd.R_far (p := ⟨gb224, 0, none⟩) (Rt HO206.out BK224.out) (fun _ hk => hk.2) (.slice Ao261 t213.length co261)) (fun _ hk => hk.2) (.slice Ao264 t216.length co264)) (fun _ hk => hk.2) (.slice Ao265 t219.length co265)) (fun _ h_ => h_.1))))) (Kd.R_lt (by (with_reducible repeat (first | apply Kd.R_alloc | apply Kd.R_drewN | apply Kd.R_drew)); exact (Kd.R_mono (Kd.R_far (p := ⟨gb224, 2, none⟩) (Kd.R_far (p := ⟨gb224, 1, none⟩) (Kd.R_far (p := ⟨gb224, 0, none⟩) (Rt HO218.out BK224.out) (fun _ hk => hk.2) (.slice Ao261 t213.length co261)) (fun _ hk => hk.2) (.slice Ao264 t216.length co264)) (fun _ hk => hk.2) (.slice Ao265 t219.length co265)) (fun _ h_ => h_.1))))) (below_size (W2 HB.out GE212.out GE224.out))); have n8_ := Aside0.mk (Kd.R_lower (Kd.R_new' (Kd.R_new' (Kd.R_mono (ok' := fun k_ => True) ho2 (fun _ hk_ => trivial)) (Kd.R_lt (by (with_reducible repeat (first | apply Kd.R_alloc | apply Kd.R_drewN | apply Kd.R_drew)); exact (Kd.R_mono (Kd.R_far (p := ⟨gb224, 2, none⟩) (Kd.R_far (p := ⟨gb224, 1, none⟩) (Kd.R_far (p := ⟨gb224, 0, none⟩) (Rt HO209.out BK224.out) (fun _ hk => hk.2) (.slice Ao261 t213.length co261)) (fun _ hk => hk.2) (.slice Ao264 t216.length co264)) (fun _ hk => hk.2) (.slice Ao265 t219.length co265)) (fun _ h_ => h_.1))))) (Kd.R_lt (by (with_reducible repeat (first | apply Kd.R_alloc | apply Kd.R_drewN | apply Kd.R_drew)); exact (Kd.R_mono (Kd.R_far (p := ⟨gb224, 2, none⟩) (Kd.R_far (p := ⟨gb224, 1, none⟩) (Kd.R_far (p := ⟨gb224, 0, none⟩) (Rt HO221.out BK224.out) (fun _ hk => hk.2) (.slice Ao261 t213.length co261)) (fun _ hk => hk.2) (.slice Ao264 t216.length co264)) (fun _ hk => hk.2) (.slice Ao265 t219.length co265)) (fun _ h_ => h_.1))))) (below_size (W2 HB.out GE212.out GE224.out))); have n9_ := Aside0.mk (blk_below (g := gb212) (o := .cells #[.slice Ao255 t201.length co255, .slice Ao257 t204.length co257, .slice Ao258 t207.length co258] 26 (0, 0)) (by (with_reducible repeat (first | refine blk_drewN ?_ _ | refine blk_drew ?_ | refine blk_alloc ?_ _)); refine blk_far ?_ NB212_224.out _; (with_reducible repeat (first | refine blk_drewN ?_ _ | refine blk_drew ?_ | refine blk_alloc ?_ _)); refine blk_far ?_ NB212_224.out _; (with_reducible repeat (first | refine blk_drewN ?_ _ | refine blk_drew ?_ | refine blk_alloc ?_ _)); refine blk_far ?_ NB212_224.out _; (with_reducible repeat (first | refine blk_drewN ?_ _ | refine blk_drew ?_ | refine blk_alloc ?_ _)); exact BK212.out) hb); have n10_ := Aside0.mk (blk_below (g := gb224) (o := .cells #[.slice Ao261 t213.length co261, .slice Ao264 t216.length co264, .slice Ao265 t219.length co265] 26 (0, 0)) (by (with_reducible repeat (first | refine blk_drewN ?_ _ | refine blk_drew ?_ | refine blk_alloc ?_ _)); refine blk_put (cs := #[.slice Ao261 t213.length co261, .slice Ao264 t216.length co264, .slice none 0 0]) ?_ 2 _ rfl; (with_reducible repeat (first | refine blk_drewN ?_ _ | refine blk_drew ?_ | refine blk_alloc ?_ _)); refine blk_put (cs := #[.slice Ao261 t213.length co261, .slice none 0 0, .slice none 0 0]) ?_ 1 _ rfl; (with_reducible repeat (first | refine blk_drewN ?_ _ | refine blk_drew ?_ | refine blk_alloc ?_ _)); refine blk_put (cs := #[.slice none 0 0, .slice none 0 0, .slice none 0 0]) ?_ 0 _ rfl; (with_reducible repeat (first | refine blk_drewN ?_ _ | refine blk_drew ?_ | refine blk_alloc ?_ _)); exact BK224.out) hb); have n11_ := Aside0.mk (below_step (W2 HB.out GE212.out GE224.out) hb); clear HO203; clear HO206; clear HO209; clear HO215; clear HO218; clear HO221; clear BK212; clear BK224; clear HB; have HO203 := n0_; have HO206 := n1_; have HO209 := n2_; have HO215 := n3_; have HO218 := n4_; have HO221 := n5_; have HO227 := n6_; have HO230 := n7_; have HO233 := n8_; have BK212 := n9_; have BK224 := n10_; have HB := n11_; clear n0_ n1_ n2_ n3_ n4_ n5_ n6_ n7_ n8_ n9_ n10_ n11_; (try clear hb); (try clear hb2); (try clear hk); (try clear hi); (try clear ho0); (try clear ho1); (try clear ho2)) | ((with_reducible refine gate_dst (N := 11) rfl ?_); refine box_event ?hg (N := 11) ?hd (cs := #[.slice none 0 0, .slice none 0 0, .slice none 0 0]) (t := 26) ?hr ?_; (case hd => rfl); (case hg => rfl); (case hr => first | (go_simp; done) | (go_simp; rfl)); intro gb236 hg w267 hbox hb; have n0_ := Aside0.mk (Kd.N_below (Kd.N_elderB (Nq HO203.out) gb236 (Nat.le_of_eq hg.symm)) hb); have n1_ := Aside0.mk (Kd.R_below (Rq HO206.out) hb); have n2_ := Aside0.mk (Kd.R_below (Rq HO209.out) hb); have n3_ := Aside0.mk (Kd.N_below (Kd.N_elderB (Nq HO215.out) gb236 (Nat.le_of_eq hg.symm)) hb); have n4_ := Aside0.mk (Kd.R_below (Rq HO218.out) hb); have n5_ := Aside0.mk (Kd.R_below (Rq HO221.out) hb); have n6_ := Aside0.mk (Kd.N_below (Kd.N_elderB (Nq HO227.out) gb236 (Nat.le_of_eq hg.symm)) hb); have n7_ := Aside0.mk (Kd.R_below (Rq HO230.out) hb); have n8_ := Aside0.mk (Kd.R_below (Rq HO233.out) hb); have n9_ := Aside0.mk (blk_below (g := gb212) (Bq BK212.out) hb); have n10_ := Aside0.mk (blk_below (g := gb224) (Bq BK224.out) hb); have n11_ := Aside0.mk (below_step (W2 HB.out GE212.out GE224.out) hb); have n12_ := Aside0.mk (hbox); have n13_ := Aside0.mk ((by rw [hg]; exact (below_size (W2 HB.out GE212.out GE224.out)) : w.heap.size ≤ gb236)); have n14_ := Aside0.mk ((by rw [hg]; exact (below_size (W2 HB.out GE212.out GE224.out)) : w.heap.size ≤ gb236)); have n15_ := Aside0.mk ((by rw [hg]; exact Nat.ne_of_lt (blk_lt (g := gb212) (Bq BK212.out)) : gb212 ≠ gb236)); have n16_ := Aside0.mk ((by rw [hg]; exact Nat.ne_of_gt (blk_lt (g := gb212) (Bq BK212.out)) : gb236 ≠ gb212)); have n17_ := Aside0.mk ((by rw [hg]; exact Nat.ne_of_lt (blk_lt (g := gb224) (Bq BK224.out)) : gb224 ≠ gb236)); have n18_ := Aside0.mk ((by rw [hg]; exact Nat.ne_of_gt (blk_lt (g := gb224) (Bq BK224.out)) : gb236 ≠ gb224)); clear HO203; clear HO206; clear HO209; clear HO215; clear HO218; clear HO221; clear HO227; clear HO230; clear HO233; clear BK212; clear BK224; clear HB; have HO203 := n0_; have HO206 := n1_; have HO209 := n2_; have HO215 := n3_; have HO218 := n4_; have HO221 := n5_; have HO227 := n6_; have HO230 := n7_; have HO233 := n8_; have BK212 := n9_; have BK224 := n10_; have HB := n11_; have BK236 := n12_; have GW236 := n13_; have GE236 := n14_; have NB212_236 := n15_; have NB236_212 := n16_; have NB224_236 := n17_; have NB236_224 := n18_; clear n0_ n1_ n2_ n3_ n4_ n5_ n6_ n7_ n8_ n9_ n10_ n11_ n12_ n13_ n14_ n15_ n16_ n17_ n18_; clear hb hbox hg; obtain ⟨Ao268, co268, eo268⟩ := Kd.N_slice HO227.out; subst eo268; have hnb269 := NB236_212.out; have hnc269 := NB212_236.out; have hnb270 := NB236_224.out; have hnc270 := NB224_236.out; have hcz271_0 : w267.cell? ⟨gb236, 0, none⟩ = some (.slice none 0 0) := (blk_cell BK236.out 0).trans rfl; have hcz271_1 : w267.cell? ⟨gb236, 1, none⟩ = some (.slice none 0 0) := (blk_cell BK236.out 1).trans rfl; have hcz271_2 : w267.cell? ⟨gb236, 2, none⟩ = some (.slice none 0 0) := (blk_cell BK236.out 2).trans rfl; have hfz271_0 := blk_frozen BK236.out 0; have hfz271_1 := blk_frozen BK236.out 1; have hfz271_2 := blk_frozen BK236.out 2; obtain ⟨Ao272, co272, eo272⟩ := Kd.R_slice HO230.out; subst eo272; obtain ⟨Ao273, co273, eo273⟩ := Kd.R_slice HO233.out; subst eo273) | (go_at_call 21; (with_reducible refine (depotlaw24_awake.calls k  t237 _ ?side1 A252.out).mono ?_); (case side1 => exact GG.below HG.out (W3 HB.out GE212.out GE224.out GE236.out)); rintro e w274 ⟨rfl, hb⟩; have n0_ := Aside0.mk (Kd.N_below (by (with_reducible repeat (first | apply Kd.N_alloc | apply Kd.N_drewN | apply Kd.N_drew)); exact (Kd.N_mono (Kd.N_far (p := ⟨gb236, 2, none⟩) (Kd.N_far (p := ⟨gb236, 1, none⟩) (Kd.N_far (p := ⟨gb236, 0, none⟩) (Kd.N_mono HO203.out (fun k_ hk => (⟨hk, hk.2⟩ : _ ∧ k_ ≠ gb236))) (fun _ hk => hk.2) (.slice Ao268 t225.length co268)) (fun _ hk => hk.2) (.slice Ao272 t228.length co272)) (fun _ hk => hk.2) (.slice Ao273 t231.length co273)) (fun _ h_ => h_.1))) hb); have n1_ := Aside0.mk (Kd.R_below (by (with_reducible repeat (first | apply Kd.R_alloc | apply Kd.R_drewN | apply Kd.R_drew)); exact (Kd.R_mono (Kd.R_far (p := ⟨gb236, 2, none⟩) (Kd.R_far (p := ⟨gb236, 1, none⟩) (Kd.R_far (p := ⟨gb236, 0, none⟩) (Rt HO206.out BK236.out) (fun _ hk => hk.2) (.slice Ao268 t225.length co268)) (fun _ hk => hk.2) (.slice Ao272 t228.length co272)) (fun _ hk => hk.2) (.slice Ao273 t231.length co273)) (fun _ h_ => h_.1))) hb); have n2_ := Aside0.mk (Kd.R_below (by (with_reducible repeat (first | apply Kd.R_alloc | apply Kd.R_drewN | apply Kd.R_drew)); exact (Kd.R_mono (Kd.R_far (p := ⟨gb236, 2, none⟩) (Kd.R_far (p := ⟨gb236, 1, none⟩) (Kd.R_far (p := ⟨gb236, 0, none⟩) (Rt HO209.out BK236.out) (fun _ hk => hk.2) (.slice Ao268 t225.length co268)) (fun _ hk => hk.2) (.slice Ao272 t228.length co272)) (fun _ hk => hk.2) (.slice Ao273 t231.length co273)) (fun _ h_ => h_.1))) hb); have n3_ := Aside0.mk (Kd.N_below (by (with_reducible repeat (first | apply Kd.N_alloc | apply Kd.N_drewN | apply Kd.N_drew)); exact (Kd.N_mono (Kd.N_far (p := ⟨gb236, 2, none⟩) (Kd.N_far (p := ⟨gb236, 1, none⟩) (Kd.N_far (p := ⟨gb236, 0, none⟩) (Kd.N_mono HO215.out (fun k_ hk => (⟨hk, hk.2⟩ : _ ∧ k_ ≠ gb236))) (fun _ hk => hk.2) (.slice Ao268 t225.length co268)) (fun _ hk => hk.2) (.slice Ao272 t228.length co272)) (fun _ hk => hk.2) (.slice Ao273 t231.length co273)) (fun _ h_ => h_.1))) hb); have n4_ := Aside0.mk (Kd.R_below (by (with_reducible repeat (first | apply Kd.R_alloc | apply Kd.R_drewN | apply Kd.R_drew)); exact (Kd.R_mono (Kd.R_far (p := ⟨gb236, 2, none⟩) (Kd.R_far (p := ⟨gb236, 1, none⟩) (Kd.R_far (p := ⟨gb236, 0, none⟩) (Rt HO218.out BK236.out) (fun _ hk => hk.2) (.slice Ao268 t225.length co268)) (fun _ hk => hk.2) (.slice Ao272 t228.length co272)) (fun _ hk => hk.2) (.slice Ao273 t231.length co273)) (fun _ h_ => h_.1))) hb); have n5_ := Aside0.mk (Kd.R_below (by (with_reducible repeat (first | apply Kd.R_alloc | apply Kd.R_drewN | apply Kd.R_drew)); exact (Kd.R_mono (Kd.R_far (p := ⟨gb236, 2, none⟩) (Kd.R_far (p := ⟨gb236, 1, none⟩) (Kd.R_far (p := ⟨gb236, 0, none⟩) (Rt HO221.out BK236.out) (fun _ hk => hk.2) (.slice Ao268 t225.length co268)) (fun _ hk => hk.2) (.slice Ao272 t228.length co272)) (fun _ hk => hk.2) (.slice Ao273 t231.length co273)) (fun _ h_ => h_.1))) hb); have n6_ := Aside0.mk (Kd.N_below (by (with_reducible repeat (first | apply Kd.N_alloc | apply Kd.N_drewN | apply Kd.N_drew)); exact (Kd.N_mono (Kd.N_far (p := ⟨gb236, 2, none⟩) (Kd.N_far (p := ⟨gb236, 1, none⟩) (Kd.N_far (p := ⟨gb236, 0, none⟩) (Kd.N_mono HO227.out (fun k_ hk => (⟨hk, hk.2⟩ : _ ∧ k_ ≠ gb236))) (fun _ hk => hk.2) (.slice Ao268 t225.length co268)) (fun _ hk => hk.2) (.slice Ao272 t228.length co272)) (fun _ hk => hk.2) (.slice Ao273 t231.length co273)) (fun _ h_ => h_.1))) hb); have n7_ := Aside0.mk (Kd.R_below (by (with_reducible repeat (first | apply Kd.R_alloc | apply Kd.R_drewN | apply Kd.R_drew)); exact (Kd.R_mono (Kd.R_far (p := ⟨gb236, 2, none⟩) (Kd.R_far (p := ⟨gb236, 1, none⟩) (Kd.R_far (p := ⟨gb236, 0, none⟩) (Rt HO230.out BK236.out) (fun _ hk => hk.2) (.slice Ao268 t225.length co268)) (fun _ hk => hk.2) (.slice Ao272 t228.length co272)) (fun _ hk => hk.2) (.slice Ao273 t231.length co273)) (fun _ h_ => h_.1))) hb); have n8_ := Aside0.mk (Kd.R_below (by (with_reducible repeat (first | apply Kd.R_alloc | apply Kd.R_drewN | apply Kd.R_drew)); exact (Kd.R_mono (Kd.R_far (p := ⟨gb236, 2, none⟩) (Kd.R_far (p := ⟨gb236, 1, none⟩) (Kd.R_far (p := ⟨gb236, 0, none⟩) (Rt HO233.out BK236.out) (fun _ hk => hk.2) (.slice Ao268 t225.length co268)) (fun _ hk => hk.2) (.slice Ao272 t228.length co272)) (fun _ hk => hk.2) (.slice Ao273 t231.length co273)) (fun _ h_ => h_.1))) hb); have n9_ := Aside0.mk (blk_below (g := gb212) (o := .cells #[.slice Ao255 t201.length co255, .slice Ao257 t204.length co257, .slice Ao258 t207.length co258] 26 (0, 0)) (by (with_reducible repeat (first | refine blk_drewN ?_ _ | refine blk_drew ?_ | refine blk_alloc ?_ _)); refine blk_far ?_ NB212_236.out _; (with_reducible repeat (first | refine blk_drewN ?_ _ | refine blk_drew ?_ | refine blk_alloc ?_ _)); refine blk_far ?_ NB212_236.out _; (with_reducible repeat (first | refine blk_drewN ?_ _ | refine blk_drew ?_ | refine blk_alloc ?_ _)); refine blk_far ?_ NB212_236.out _; (with_reducible repeat (first | refine blk_drewN ?_ _ | refine blk_drew ?_ | refine blk_alloc ?_ _)); exact BK212.out) hb); have n10_ := Aside0.mk (blk_below (g := gb224) (o := .cells #[.slice Ao261 t213.length co261, .slice Ao264 t216.length co264, .slice Ao265 t219.length co265] 26 (0, 0)) (by (with_reducible repeat (first | refine blk_drewN ?_ _ | refine blk_drew ?_ | refine blk_alloc ?_ _)); refine blk_far ?_ NB224_236.out _; (with_reducible repeat (first | refine blk_drewN ?_ _ | refine blk_drew ?_ | refine blk_alloc ?_ _)); refine blk_far ?_ NB224_236.out _; (with_reducible repeat (first | refine blk_drewN ?_ _ | refine blk_drew ?_ | refine blk_alloc ?_ _)); refine blk_far ?_ NB224_236.out _; (with_reducible repeat (first | refine blk_drewN ?_ _ | refine blk_drew ?_ | refine blk_alloc ?_ _)); exact BK224.out) hb); have n11_ := Aside0.mk (blk_below (g := gb236) (o := .cells #[.slice Ao268 t225.length co268, .slice Ao272 t228.length co272, .slice Ao273 t231.length co273] 26 (0, 0)) (by (with_reducible repeat (first | refine blk_drewN ?_ _ | refine blk_drew ?_ | refine blk_alloc ?_ _)); refine blk_put (cs := #[.slice Ao268 t225.length co268, .slice Ao272 t228.length co272, .slice none 0 0]) ?_ 2 _ rfl; (with_reducible repeat (first | refine blk_drewN ?_ _ | refine blk_drew ?_ | refine blk_alloc ?_ _)); refine blk_put (cs := #[.slice Ao268 t225.length co268, .slice none 0 0, .slice none 0 0]) ?_ 1 _ rfl; (with_reducible repeat (first | refine blk_drewN ?_ _ | refine blk_drew ?_ | refine blk_alloc ?_ _)); refine blk_put (cs := #[.slice none 0 0, .slice none 0 0, .slice none 0 0]) ?_ 0 _ rfl; (with_reducible repeat (first | refine blk_drewN ?_ _ | refine blk_drew ?_ | refine blk_alloc ?_ _)); exact BK236.out) hb); have n12_ := Aside0.mk (below_step (W3 HB.out GE212.out GE224.out GE236.out) hb); clear HO203; clear HO206; clear HO209; clear HO215; clear HO218; clear HO221; clear HO227; clear HO230; clear HO233; clear BK212; clear BK224; clear BK236; clear HB; have HO203 := n0_; have HO206 := n1_; have HO209 := n2_; have HO215 := n3_; have HO218 := n4_; have HO221 := n5_; have HO227 := n6_; have HO230 := n7_; have HO233 := n8_; have BK212 := n9_; have BK224 := n10_; have BK236 := n11_; have HB := n12_; clear n0_ n1_ n2_ n3_ n4_ n5_ n6_ n7_ n8_ n9_ n10_ n11_ n12_; (try clear hb); (try clear hb2); (try clear hk); (try clear hi)))
      go_ret
      exact ⟨by first | rfl | (simp [errW_none, errW_some] <;> rfl) | (simp [*, errW_none, errW_some] <;> rfl) | (simp [errW_none, errW_some, Go.Proofs.YtmocooihkobdjaaDoor.listNe]; done), by repeat (first | (with_reducible first | exact HB.out | apply below_alloc | apply pw_below_drewN | apply below_drew1 | refine below_set ?_ GE212.out | refine below_set ?_ GE224.out | refine below_set ?_ GE236.out) | exact HB.out)⟩
     ·rw [if_neg c251] at H
      have c251b0 : (t235 == t211) = false := beq_eq_false_iff_ne.mpr c251
      have c251b1 : (t235 != t211) = true := bne_iff_ne.mpr c251
      exact absurd (Option.some.inj H) (by rw [hr]; decide)
    ·rw [if_neg c250] at H
     have c250b0 : (t234 == t210) = false := beq_eq_false_iff_ne.mpr c250
     have c250b1 : (t234 != t210) = true := bne_iff_ne.mpr c250
     exact absurd (Option.some.inj H) (by rw [hr]; decide)
  ·rw [if_neg c6] at H
   exact absurd H (by simp)
 ·rw [if_neg c5] at H
  exact absurd H (by simp)
end Go.Proofs.YtmocooihkobdjaaDoor.T
end
section
namespace Go.Proofs.YtmocooihkobdjaaDoor.T
open Go.RowKit Go.Proofs.YtmocooihkobdjaaDoorW.PrintWords Go.Proofs.YtmocooihkobdjaaDoorW.PrintLast Go.Proofs.YtmocooihkobdjaaDoorW.PrintMore
attribute [local go_sem] max2_int min2_int max_two min_two max_three min_three max_four min_four
set_option linter.unusedVariables false
set_option linter.unusedSimpArgs false
end Go.Proofs.YtmocooihkobdjaaDoor.T
end
section
set_option linter.unusedVariables false
set_option linter.unusedSimpArgs false
namespace Go.Proofs.YtmocooihkobdjaaDoor.Ver
open Go.RowKit Go.Proofs.YtmocooihkobdjaaDoor.T Go.Proofs.YtmocooihkobdjaaDoorW.PrintWords Go.Proofs.YtmocooihkobdjaaDoorW.PrintLast
theorem wrap_id {x : Int} (h0 : -9223372036854775808 ≤ x) (h1 : x ≤ 9223372036854775807) : wrap64 x = x := by
  unfold wrap64
  omega
def lastN (s : ByteArray) (c : Int) : Nat → Int
  | 0 => -1
  | n + 1 => if bt s n = c then n else lastN s c n
theorem lastN_bd (s : ByteArray) (c : Int) : ∀ n, -1 ≤ lastN s c n ∧ lastN s c n + 1 ≤ n := by
  intro n
  induction n with
  | zero => exact ⟨by simp [lastN], by simp [lastN]⟩
  | succ n ih =>
    unfold lastN
    split <;> omega
theorem lastB_ev (s : ByteArray) (c : Int) (hs : s.size ≤ 140737488351232) : ∀ n : Nat, n ≤ s.size → Ev (fun k => bytealg_LastIndexByteString.l0 k s c (wrap64 ((n : Int) - 1))) (lastN s c n) := by
  intro n
  induction n with
  | zero =>
    intro _
    refine Ev.step (f := fun _ => some (-1)) (fun k => ?_) (Ev.now _)
    have e : wrap64 (((0 : Nat) : Int) - 1) = -1 := wrap_id (by omega) (by omega)
    simp only [bytealg_LastIndexByteString.l0]
    rw [e, if_neg (by omega)]
  | succ n ih =>
    intro hn
    have e : wrap64 (((n + 1 : Nat) : Int) - 1) = n := by rw [wrap_id (by omega) (by omega)]; omega
    by_cases hb : bt s n = c
    · refine Ev.step (f := fun _ => some (n : Int)) (fun k => ?_) ?_
      · simp only [bytealg_LastIndexByteString.l0]
        rw [e, if_pos (by omega), if_pos (by omega), if_pos (by omega), if_pos hb]
      · have : lastN s c (n + 1) = n := by unfold lastN; rw [if_pos hb]
        rw [this]; exact Ev.now _
    · refine Ev.step (f := fun k => bytealg_LastIndexByteString.l0 k s c (wrap64 ((n : Int) - 1))) (fun k => ?_) ?_
      · simp only [bytealg_LastIndexByteString.l0]
        rw [e, if_pos (by omega), if_pos (by omega), if_pos (by omega), if_neg hb]
      · have : lastN s c (n + 1) = lastN s c n := by conv => lhs; unfold lastN; rw [if_neg hb]
        rw [this]; exact ih (by omega)
theorem last_ev (s : ByteArray) (c : Int) (hs : s.size ≤ 140737488351232) : Ev (fun k => strings_LastIndexByte.f k s c) (lastN s c s.size) := by
  unfold strings_LastIndexByte.f bytealg_LastIndexByteString.f
  exact Ev.bind (lastB_ev s c hs s.size (Nat.le_refl _)) (Ev.now _)
theorem idx_bd (l : List UInt8) (c : UInt8) : -1 ≤ Lib.indexByte l c ∧ Lib.indexByte l c + 1 ≤ l.length := by
  refine ⟨Lib.indexByte_ge l c, ?_⟩
  induction l with
  | nil => simp [Lib.indexByte]
  | cons b l ih =>
    unfold Lib.indexByte
    split
    · simp only [List.length_cons]; omega
    · split
      · simp only [List.length_cons]; omega
      · simp only [List.length_cons]; omega
theorem bt_eq (s : ByteArray) (i : Nat) (h : i < s.size) : bt s i = ((s[i]'h).toNat : Int) := by
  have := bt_at s (i : Int) (by simpa using h)
  rw [← this]
  simp
theorem drop_cons (s : ByteArray) (i : Nat) (h : i < s.size) : s.data.toList.drop i = s[i]'h :: s.data.toList.drop (i + 1) := by
  have hl : i < s.data.toList.length := by simpa using h
  rw [List.drop_eq_getElem_cons hl]
  rfl
theorem cut_one (s : ByteArray) (c : UInt8) (hs : s.size ≤ 140737488351232) :
    strings_Cut.f s ⟨#[c]⟩ = some (if 0 ≤ Lib.indexByte s.data.toList c then (s.extract 0 (Lib.indexByte s.data.toList c).toNat, s.extract (Lib.indexByte s.data.toList c + 1).toNat s.size, true) else (s, ⟨#[]⟩, false)) := by
  have hb := idx_bd s.data.toList c
  have hl : (s.data.toList.length : Int) = s.size := by simp
  unfold strings_Cut.f stringslite_Cut.f stringslite_Index.f
  have h1 : (⟨#[c]⟩ : ByteArray).size = 1 := rfl
  rw [if_pos h1]
  have h0 : (⟨#[c]⟩ : ByteArray).data.getD 0 0 = c := rfl
  rw [h0]
  simp only [Option.bind_some]
  by_cases h : 0 ≤ Lib.indexByte s.data.toList c
  · have e : wrap64 (Lib.indexByte s.data.toList c + (((⟨#[c]⟩ : ByteArray).size : Nat) : Int)) = Lib.indexByte s.data.toList c + 1 := by
      rw [h1]
      exact wrap_id (by omega) (by omega)
    rw [if_pos (show Lib.indexByte s.data.toList c ≥ 0 from h), if_pos h, if_pos (by omega), e, if_pos (by omega), if_pos (by omega), if_pos h]
    rfl
  · rw [if_neg (show ¬ Lib.indexByte s.data.toList c ≥ 0 from h), if_neg h]
    rfl
def colonI (s : ByteArray) : Int := Lib.indexByte s.data.toList 58
def epochS (s : ByteArray) : ByteArray := epochR s (colonI s)
def behindS (s : ByteArray) : ByteArray := restR s (colonI s)
def minusI (s : ByteArray) : Int := lastN (behindS s) 45 (behindS s).size
def upS (s : ByteArray) : ByteArray := upR (behindS s) (minusI s)
def revS (s : ByteArray) : ByteArray := revR (behindS s) (minusI s)
def colonS (s : ByteArray) : Bool := decide (0 ≤ colonI s)
def minusS (s : ByteArray) : Bool := decide (0 ≤ minusI s)
def okS (s : ByteArray) : Bool := (fin (colonS s) (minusS s) (epochS s) (upS s) (revS s)).2.2.2
theorem behind_le (s : ByteArray) : (behindS s).size ≤ s.size := by
  unfold behindS restR
  split
  · simp
  · exact Nat.le_refl _
theorem minus_bd (s : ByteArray) : minusI s + 1 ≤ (behindS s).size := (lastN_bd (behindS s) 45 _).2
theorem parted_ev (s : ByteArray) (hs : s.size ≤ 140737488351232) : Ev (fun k => version_parted.f k s) (epochS s, upS s, revS s, okS s) := by
  have hb := behind_le s
  have hc : strings_Cut.f s ⟨#[58]⟩ = some (if 0 ≤ colonI s then s.extract 0 (colonI s).toNat else s, if 0 ≤ colonI s then s.extract (colonI s + 1).toNat s.size else ⟨#[]⟩, colonS s) := by
    rw [cut_one s 58 hs]
    unfold colonS colonI
    split <;> simp_all
  have hrest : restOf s (if 0 ≤ colonI s then s.extract 0 (colonI s).toNat else s, if 0 ≤ colonI s then s.extract (colonI s + 1).toNat s.size else ⟨#[]⟩, colonS s) = behindS s := by
    unfold restOf behindS restR colonS
    simp only [decide_eq_true_eq]
    split <;> rfl
  have hep : epochOf (if 0 ≤ colonI s then s.extract 0 (colonI s).toNat else s, if 0 ≤ colonI s then s.extract (colonI s + 1).toNat s.size else ⟨#[]⟩, colonS s) = epochS s := by
    unfold epochOf epochS epochR colonS
    simp only [decide_eq_true_eq]
    split <;> rfl
  unfold version_parted.f
  rw [hc]
  simp only [Option.bind_some]
  rw [hrest, hep]
  refine Ev.bind (last_ev (behindS s) 45 (by omega)) ?_
  rw [if_pos (by omega)]
  have hm := minus_bd s
  have e : minusOf (colonS s) (epochS s) (behindS s) (lastN (behindS s) 45 (behindS s).size) = some (epochS s, upS s, revS s, okS s) := by
    change minusOf (colonS s) (epochS s) (behindS s) (minusI s) = _
    unfold minusOf okS upS revS minusS upR revR fin
    by_cases h : 0 ≤ minusI s
    · simp only [if_pos h, if_pos hm, decide_eq_true h]
    · simp only [if_neg h, decide_eq_false h]
      rfl
  rw [e]
  exact Ev.now _
end Go.Proofs.YtmocooihkobdjaaDoor.Ver
end
section
set_option linter.unusedVariables false
set_option linter.unusedSimpArgs false
namespace Go.Proofs.YtmocooihkobdjaaDoor.Model
open Go.RowKit Go.Proofs.YtmocooihkobdjaaDoor.T Go.Proofs.YtmocooihkobdjaaDoorW.PrintWords Go.Proofs.YtmocooihkobdjaaDoorW.PrintLast Go.Proofs.YtmocooihkobdjaaDoor.Ver
abbrev B := List UInt8
theorem byte_all {P : UInt8 → Prop} (h : ∀ n : Fin 256, P (UInt8.ofNat n.val)) (c : UInt8) : P c := by
  have := h ⟨c.toNat, c.toNat_lt⟩
  simpa using this
def gapB (c : UInt8) : Bool := c == 32 || (c == 9 || c == 10)
def sgnB (c : UInt8) : Bool := c == 44 || (c == 124 || (c == 40 || c == 41))
def mrkB (c : UInt8) : Bool := c == 60 || (c == 61 || c == 62)
def wrdB (c : UInt8) : Bool := !gapB c && !sgnB c
def kd (c : UInt8) : Int := if gapB c = true then 1 else if sgnB c = true then 2 else if mrkB c = true then 3 else 0
def dg (l : B) : B := l.dropWhile gapB
def ofL (l : B) : ByteArray := ⟨l.toArray⟩
def at_ (s : ByteArray) (i : Nat) : B := s.data.toList.drop i
theorem toL_ofL (l : B) : (ofL l).data.toList = l := by simp [ofL]
theorem ofL_toL (s : ByteArray) : ofL s.data.toList = s := by
  obtain ⟨⟨x⟩⟩ := s
  rfl
theorem ofL_size (l : B) : (ofL l).size = l.length := by
  show (ofL l).data.size = _
  simp [ofL]
theorem ofL_list (l : B) : (ofL l).toList = l := by
  rw [ByteArray.toList_eq]
  rfl
theorem at_len (s : ByteArray) (i : Nat) : (at_ s i).length = s.size - i := by
  unfold at_
  rw [List.length_drop]
  rfl
theorem at_lt {s : ByteArray} {i : Nat} (h : i < s.size) : at_ s i = s[i]'h :: at_ s (i + 1) := drop_cons s i h
theorem at_end (s : ByteArray) : at_ s s.size = [] := List.eq_nil_of_length_eq_zero (by rw [at_len]; omega)
theorem at_zero (s : ByteArray) : at_ s 0 = s.data.toList := rfl
theorem at_nil {s : ByteArray} {i : Nat} (hi : i ≤ s.size) (h : at_ s i = []) : i = s.size := by
  have := at_len s i
  rw [h] at this
  simp at this
  omega
theorem at_cons {s : ByteArray} {i : Nat} {c : UInt8} {r : B} (hi : i ≤ s.size) (h : at_ s i = c :: r) : i < s.size ∧ bt s (i : Int) = (c.toNat : Int) ∧ at_ s (i + 1) = r := by
  have hl : i < s.size := by
    have := at_len s i
    rw [h] at this
    simp at this
    omega
  rw [at_lt hl] at h
  injection h with h1 h2
  exact ⟨hl, by rw [bt_eq s i hl, h1], h2⟩
theorem ext_at (s : ByteArray) (i e : Nat) : s.extract (i : Int).toNat (e : Int).toNat = ofL ((at_ s i).take (e - i)) := by
  rw [← ofL_toL (s.extract (i : Int).toNat (e : Int).toNat)]
  congr 1
  rw [ByteArray.data_extract, Array.toList_extract]
  simp [at_, List.extract]
theorem take_tw (p : UInt8 → Bool) (l : B) : l.take (l.takeWhile p).length = l.takeWhile p := by
  conv => lhs; rw [← List.takeWhile_append_dropWhile (p := p) (l := l)]
  rw [List.take_left']
  simp
theorem toNat_inj {c d : UInt8} : ((c.toNat : Int) = (d.toNat : Int)) ↔ c = d :=
  ⟨fun h => Lib.byte_eq_of_toNat h, fun h => by rw [h]⟩
def plB (c : UInt8) : Bool := (decide (97 ≤ c) && decide (c ≤ 122)) || (decide (48 ≤ c) && decide (c ≤ 57))
def namB (f : Bool) (c : UInt8) : Bool := plB c || (!f && (c == 43 || (c == 45 || c == 46)))
def nameL : Bool → B → Bool
  | _, [] => true
  | f, c :: l => namB f c && nameL false l
def nameM (l : B) : Bool := nameL true l && decide (1 < l.length)
theorem namB_int (f : Bool) : ∀ c : UInt8, namB f c = decide ((((c.toNat : Int) ≥ 97 ∧ (c.toNat : Int) ≤ 122) ∨ ((c.toNat : Int) ≥ 48 ∧ (c.toNat : Int) ≤ 57)) ∨ (f = false ∧ ((c.toNat : Int) = 43 ∨ (c.toNat : Int) = 45 ∨ (c.toNat : Int) = 46))) := by
  cases f
  · exact byte_all (by decide +kernel)
  · exact byte_all (by decide +kernel)
theorem name_ev (s : ByteArray) (hs : s.size ≤ 140737488351232) : Ev (fun k => relation_Name.f k s) (nameM s.data.toList) := by
  have key : ∀ (d i : Nat), i + d = s.size → Ev (fun k => relation_Name.l0 k s (i : Int)) (nameL (decide (i = 0)) (at_ s i) && decide ((s.size : Int) > 1)) := by
    intro d
    induction d with
    | zero =>
      intro i hi
      obtain rfl : i = s.size := by omega
      rw [at_end]
      refine Ev.step (f := fun _ => some (true && decide ((s.size : Int) > 1))) (fun k => ?_) (Ev.now _)
      simp only [relation_Name.l0]
      rw [if_neg (by omega)]
      rfl
    | succ d ih =>
      intro i hi
      have hl : i < s.size := by omega
      have ew : wrap64 ((i : Int) + 1) = ((i + 1 : Nat) : Int) := by rw [wrap_id (by omega) (by omega)]; omega
      have hp := ih (i + 1) (by omega)
      rw [show decide (i + 1 = 0) = false from decide_eq_false (by omega)] at hp
      have hb := namB_int (decide (i = 0)) (s[i]'hl)
      have ep : ∀ k, relation_Name.l0 (k + 2) s (i : Int) = if namB (decide (i = 0)) (s[i]'hl) = true then relation_Name.l0 k s ((i + 1 : Nat) : Int) else some false := by
        intro k
        simp only [relation_Name.l0, relation_Name.j1, ew, bt_eq s i hl, if_pos (show (i : Int) < s.size by omega), if_pos (show (0 : Int) ≤ i by omega)]
        rw [hb]
        repeat' split
        all_goals first | rfl | (exfalso; simp_all; done) | (exfalso; simp_all; omega)
      rw [at_lt hl, nameL]
      cases hg : namB (decide (i = 0)) (s[i]'hl) with
      | true =>
        rw [Bool.true_and]
        exact Ev.step (f := fun k => relation_Name.l0 (k + 1) s (i : Int)) (fun k => rfl) (Ev.step (f := fun k => relation_Name.l0 k s ((i + 1 : Nat) : Int)) (fun k => by rw [ep, if_pos hg]) hp)
      | false =>
        rw [Bool.false_and, Bool.false_and]
        exact Ev.step (f := fun k => relation_Name.l0 (k + 1) s (i : Int)) (fun k => rfl) (Ev.step (f := fun _ => some false) (fun k => by rw [ep, if_neg (by simp [hg])]) (Ev.now _))
  unfold relation_Name.f
  have h := key s.size 0 (by omega)
  have e : decide ((s.size : Int) > 1) = decide (1 < s.data.toList.length) := by
    have : s.data.toList.length = s.size := by simp
    rw [this]
    exact decide_eq_decide.2 (by omega)
  rw [e] at h
  exact h
theorem plegal_ev (s : ByteArray) (hs : s.size ≤ 140737488351232) : Ev (fun k => version_Legal.f k s) (okS s) := by
  unfold version_Legal.f
  exact Ev.bind (parted_ev s hs) (Ev.now _)
end Go.Proofs.YtmocooihkobdjaaDoor.Model
end
section
set_option linter.unusedVariables false
set_option linter.unusedSimpArgs false
namespace Go.Proofs.YtmocooihkobdjaaDoor.Model
open Go.RowKit Go.Proofs.YtmocooihkobdjaaDoor.T Go.Proofs.YtmocooihkobdjaaDoorW.PrintWords Go.Proofs.YtmocooihkobdjaaDoorW.PrintLast Go.Proofs.YtmocooihkobdjaaDoor.Ver
def kindOf (c : Int) : Int := if c = 32 ∨ c = 9 ∨ c = 10 then 1 else if c = 44 ∨ c = 124 ∨ c = 40 ∨ c = 41 then 2 else if c = 60 ∨ c = 61 ∨ c = 62 then 3 else 0
theorem kindOf_byte : ∀ c : UInt8, kindOf (c.toNat : Int) = kd c := byte_all (by decide +kernel)
theorem kj1_ev (c : Int) (b : Bool) : Ev (fun k => relation_kind.j1 k c b) (if b = true then 2 else if c = 60 ∨ c = 61 ∨ c = 62 then 3 else 0) := by
  refine Ev.step (f := fun _ => some (if b = true then 2 else if c = 60 ∨ c = 61 ∨ c = 62 then 3 else 0)) (fun k => ?_) (Ev.now _)
  simp only [relation_kind.j1]
  repeat' split
  all_goals simp_all
theorem kj0_ev (c : Int) (b : Bool) : Ev (fun k => relation_kind.j0 k c b) (if b = true then 1 else if c = 44 ∨ c = 124 ∨ c = 40 ∨ c = 41 then 2 else if c = 60 ∨ c = 61 ∨ c = 62 then 3 else 0) := by
  refine Ev.step (f := fun k => if b = true then some 1 else relation_kind.j1 k c (decide (c = 44 ∨ c = 124 ∨ c = 40 ∨ c = 41))) (fun k => ?_) ?_
  · simp only [relation_kind.j0]
    by_cases h1 : c = 44
    · subst h1; simp
    by_cases h2 : c = 124
    · subst h2; simp
    by_cases h3 : c = 40
    · subst h3; simp
    · by_cases h4 : c = 41
      · subst h4; simp
      · have h5 : (c == 41) = false := beq_eq_false_iff_ne.2 h4
        simp [h1, h2, h3, h4, h5]
  · cases b with
    | true => simpa using Ev.now _
    | false =>
      have := kj1_ev c (decide (c = 44 ∨ c = 124 ∨ c = 40 ∨ c = 41))
      simpa using this
theorem kind_int (c : Int) : Ev (fun k => relation_kind.f k c) (kindOf c) := by
  have h := kj0_ev c (decide (c = 32 ∨ c = 9 ∨ c = 10))
  have e : (fun k => relation_kind.f k c) = fun k => relation_kind.j0 k c (decide (c = 32 ∨ c = 9 ∨ c = 10)) := by
    funext k
    unfold relation_kind.f
    by_cases h1 : c = 32
    · subst h1; simp
    by_cases h2 : c = 9
    · subst h2; simp
    · by_cases h4 : c = 10
      · subst h4; simp
      · have h5 : (c == 10) = false := beq_eq_false_iff_ne.2 h4
        simp [h1, h2, h4, h5]
  rw [e]
  simpa [kindOf] using h
theorem kind_ev (c : UInt8) : Ev (fun k => relation_kind.f k (c.toNat : Int)) (kd c) := by
  rw [← kindOf_byte]
  exact kind_int _
theorem kd_gap {c : UInt8} : kd c = 1 ↔ gapB c = true := by
  unfold kd
  repeat' split
  all_goals simp_all
theorem kd_stop {c : UInt8} : (kd c = 1 ∨ kd c = 2) ↔ wrdB c = false := by
  unfold kd wrdB
  repeat' split
  all_goals simp_all
theorem kd_mark : ∀ c : UInt8, kd c = 3 ↔ mrkB c = true := byte_all (by decide +kernel)
theorem gaps_ev (s : ByteArray) (hs : s.size ≤ 140737488351232) : ∀ (d i : Nat), i + d = s.size → ∃ e : Nat, i ≤ e ∧ e ≤ s.size ∧ at_ s e = dg (at_ s i) ∧ Ev (fun k => relation_reader_gaps.f k s (i : Int)) (s, (e : Int)) := by
  intro d
  unfold relation_reader_gaps.f
  induction d with
  | zero =>
    intro i hi
    refine ⟨i, Nat.le_refl _, by omega, ?_, ?_⟩
    · obtain rfl : i = s.size := by omega
      rw [at_end]; rfl
    · refine Ev.step (f := fun _ => some (s, (i : Int))) (fun k => ?_) (Ev.now _)
      simp only [relation_reader_gaps.l0]
      rw [if_neg (by omega)]
  | succ d ih =>
    intro i hi
    have hl : i < s.size := by omega
    have ew : wrap64 ((i : Int) + 1) = ((i + 1 : Nat) : Int) := by rw [wrap_id (by omega) (by omega)]; omega
    have hstep : ∀ k, relation_reader_gaps.l0 (k + 1) s (i : Int) = (relation_kind.f k ((s[i]'hl).toNat : Int)).bind fun t => if t = 1 then relation_reader_gaps.l0 k s ((i + 1 : Nat) : Int) else some (s, (i : Int)) := by
      intro k
      simp only [relation_reader_gaps.l0]
      rw [if_pos (by omega), if_pos (by omega), ew, bt_eq s i hl]
    rw [at_lt hl]
    by_cases hk : gapB (s[i]'hl) = true
    · obtain ⟨e, h1, h2, h3, h4⟩ := ih (i + 1) (by omega)
      refine ⟨e, by omega, h2, ?_, ?_⟩
      · rw [h3, dg, dg, List.dropWhile_cons, if_pos hk]
      · refine Ev.step hstep ?_
        refine Ev.bind (kind_ev _) ?_
        simp only [if_pos (kd_gap.2 hk)]
        exact h4
    · refine ⟨i, Nat.le_refl _, by omega, ?_, ?_⟩
      · rw [at_lt hl, dg, List.dropWhile_cons, if_neg hk]
      · refine Ev.step hstep ?_
        refine Ev.bind (kind_ev _) ?_
        simp only [if_neg (fun q => hk (kd_gap.1 q))]
        exact Ev.now _
theorem runstop (s : ByteArray) (st i : Nat) (hs : s.size ≤ 140737488351232) (hi : i < s.size) (hst : st ≤ i) (hk : wrdB (s[i]'hi) = false) :
    Ev (fun k => relation_reader_run.l0 k false (i : Int) s (st : Int)) (s.extract (st : Int).toNat (i : Int).toNat, s, (st : Int)) := by
  refine Ev.step (f := fun k => (relation_kind.f k ((s[i]'hi).toNat : Int)).bind fun t => if t = 1 then some (s.extract (st : Int).toNat (i : Int).toNat, s, (st : Int)) else if t = 2 then some (s.extract (st : Int).toNat (i : Int).toNat, s, (st : Int)) else relation_reader_run.l0 k false (wrap64 ((i : Int) + 1)) s (st : Int)) (fun k => ?_) ?_
  · simp only [relation_reader_run.l0, bt_eq s i hi, if_pos (show (i : Int) < s.size by omega), if_pos (show (0 : Int) ≤ i by omega), if_pos (show (0 : Int) ≤ st by omega), if_pos (show (st : Int) ≤ i by omega), if_pos (show (i : Int) ≤ s.size by omega), Bool.false_eq_true, if_false]
  · refine Ev.bind (kind_ev _) ?_
    rcases kd_stop.2 hk with hk | hk
    · simp only [if_pos hk]; exact Ev.now _
    · simp only [if_neg (show ¬ kd (s[i]'hi) = 1 by omega), if_pos hk]; exact Ev.now _
theorem runstep (s : ByteArray) (st i : Nat) (hs : s.size ≤ 140737488351232) (hi : i < s.size) (hst : st ≤ i) (hk : ¬ wrdB (s[i]'hi) = false) (v : ByteArray × ByteArray × Int)
    (h : Ev (fun k => relation_reader_run.l0 k false ((i + 1 : Nat) : Int) s (st : Int)) v) : Ev (fun k => relation_reader_run.l0 k false (i : Int) s (st : Int)) v := by
  have ew : wrap64 ((i : Int) + 1) = ((i + 1 : Nat) : Int) := by rw [wrap_id (by omega) (by omega)]; omega
  refine Ev.step (f := fun k => (relation_kind.f k ((s[i]'hi).toNat : Int)).bind fun t => if t = 1 then some (s.extract (st : Int).toNat (i : Int).toNat, s, (st : Int)) else if t = 2 then some (s.extract (st : Int).toNat (i : Int).toNat, s, (st : Int)) else relation_reader_run.l0 k false ((i + 1 : Nat) : Int) s (st : Int)) (fun k => ?_) ?_
  · simp only [relation_reader_run.l0, bt_eq s i hi, if_pos (show (i : Int) < s.size by omega), if_pos (show (0 : Int) ≤ i by omega), if_pos (show (0 : Int) ≤ st by omega), if_pos (show (st : Int) ≤ i by omega), if_pos (show (i : Int) ≤ s.size by omega), Bool.false_eq_true, if_false, ew]
  · refine Ev.bind (kind_ev _) ?_
    simp only [if_neg (fun q => hk (kd_stop.1 (.inl q))), if_neg (fun q => hk (kd_stop.1 (.inr q)))]
    exact h
theorem signstop (s : ByteArray) (st i : Nat) (hs : s.size ≤ 140737488351232) (hi : i < s.size) (hst : st ≤ i) (hk : ¬ mrkB (s[i]'hi) = true) :
    Ev (fun k => relation_reader_run.l0 k true (i : Int) s (st : Int)) (s.extract (st : Int).toNat (i : Int).toNat, s, (st : Int)) := by
  refine Ev.step (f := fun k => (relation_kind.f k ((s[i]'hi).toNat : Int)).bind fun t => if t = 3 then (if t = 1 then some (s.extract (st : Int).toNat (i : Int).toNat, s, (st : Int)) else if t = 2 then some (s.extract (st : Int).toNat (i : Int).toNat, s, (st : Int)) else relation_reader_run.l0 k true (wrap64 ((i : Int) + 1)) s (st : Int)) else some (s.extract (st : Int).toNat (i : Int).toNat, s, (st : Int))) (fun k => ?_) ?_
  · simp only [relation_reader_run.l0, bt_eq s i hi, if_pos (show (i : Int) < s.size by omega), if_pos (show (0 : Int) ≤ i by omega), if_pos (show (0 : Int) ≤ st by omega), if_pos (show (st : Int) ≤ i by omega), if_pos (show (i : Int) ≤ s.size by omega), if_true]
  · refine Ev.bind (kind_ev _) ?_
    simp only [if_neg (fun q => hk ((kd_mark _).1 q))]; exact Ev.now _
theorem signstep (s : ByteArray) (st i : Nat) (hs : s.size ≤ 140737488351232) (hi : i < s.size) (hst : st ≤ i) (hk : mrkB (s[i]'hi) = true) (v : ByteArray × ByteArray × Int)
    (h : Ev (fun k => relation_reader_run.l0 k true ((i + 1 : Nat) : Int) s (st : Int)) v) : Ev (fun k => relation_reader_run.l0 k true (i : Int) s (st : Int)) v := by
  have ew : wrap64 ((i : Int) + 1) = ((i + 1 : Nat) : Int) := by rw [wrap_id (by omega) (by omega)]; omega
  have hk := (kd_mark _).2 hk
  refine Ev.step (f := fun k => (relation_kind.f k ((s[i]'hi).toNat : Int)).bind fun t => if t = 3 then (if t = 1 then some (s.extract (st : Int).toNat (i : Int).toNat, s, (st : Int)) else if t = 2 then some (s.extract (st : Int).toNat (i : Int).toNat, s, (st : Int)) else relation_reader_run.l0 k true ((i + 1 : Nat) : Int) s (st : Int)) else some (s.extract (st : Int).toNat (i : Int).toNat, s, (st : Int))) (fun k => ?_) ?_
  · simp only [relation_reader_run.l0, bt_eq s i hi, if_pos (show (i : Int) < s.size by omega), if_pos (show (0 : Int) ≤ i by omega), if_pos (show (0 : Int) ≤ st by omega), if_pos (show (st : Int) ≤ i by omega), if_pos (show (i : Int) ≤ s.size by omega), if_true, ew]
  · refine Ev.bind (kind_ev _) ?_
    simp only [if_pos hk, if_neg (show ¬ kd (s[i]'hi) = 1 by omega), if_neg (show ¬ kd (s[i]'hi) = 2 by omega)]
    exact h
theorem word_ev (s : ByteArray) (st : Nat) (hs : s.size ≤ 140737488351232) : ∀ (d i : Nat), i + d = s.size → st ≤ i → ∃ e : Nat, i ≤ e ∧ e ≤ s.size ∧ at_ s e = (at_ s i).dropWhile wrdB ∧ e - i = ((at_ s i).takeWhile wrdB).length ∧
    Ev (fun k => relation_reader_run.l0 k false (i : Int) s (st : Int)) (s.extract (st : Int).toNat (e : Int).toNat, s, (st : Int)) := by
  intro d
  induction d with
  | zero =>
    intro i hi hst
    obtain rfl : i = s.size := by omega
    refine ⟨s.size, Nat.le_refl _, by omega, by rw [at_end]; rfl, by rw [at_end]; simp, ?_⟩
    refine Ev.step (f := fun _ => some (s.extract (st : Int).toNat (s.size : Int).toNat, s, (st : Int))) (fun k => ?_) (Ev.now _)
    simp only [relation_reader_run.l0]
    rw [if_neg (by omega), if_pos (by omega), if_pos (by omega), if_pos (by omega)]
  | succ d ih =>
    intro i hi hst
    have hl : i < s.size := by omega
    rw [at_lt hl]
    by_cases hk : wrdB (s[i]'hl) = false
    · refine ⟨i, Nat.le_refl _, by omega, ?_, ?_, runstop s st i hs hl hst hk⟩
      · rw [at_lt hl, List.dropWhile_cons, if_neg (by simp [hk])]
      · rw [List.takeWhile_cons, if_neg (by simp [hk])]; simp
    · have hk' : wrdB (s[i]'hl) = true := by simpa using hk
      obtain ⟨e, h1, h2, h3, h4, h5⟩ := ih (i + 1) (by omega) (by omega)
      refine ⟨e, by omega, h2, ?_, ?_, runstep s st i hs hl hst hk _ h5⟩
      · rw [h3, List.dropWhile_cons, if_pos hk']
      · rw [List.takeWhile_cons, if_pos hk', List.length_cons]; omega
theorem sign_ev (s : ByteArray) (st : Nat) (hs : s.size ≤ 140737488351232) : ∀ (d i : Nat), i + d = s.size → st ≤ i → ∃ e : Nat, i ≤ e ∧ e ≤ s.size ∧ at_ s e = (at_ s i).dropWhile mrkB ∧ e - i = ((at_ s i).takeWhile mrkB).length ∧
    Ev (fun k => relation_reader_run.l0 k true (i : Int) s (st : Int)) (s.extract (st : Int).toNat (e : Int).toNat, s, (st : Int)) := by
  intro d
  induction d with
  | zero =>
    intro i hi hst
    obtain rfl : i = s.size := by omega
    refine ⟨s.size, Nat.le_refl _, by omega, by rw [at_end]; rfl, by rw [at_end]; simp, ?_⟩
    refine Ev.step (f := fun _ => some (s.extract (st : Int).toNat (s.size : Int).toNat, s, (st : Int))) (fun k => ?_) (Ev.now _)
    simp only [relation_reader_run.l0]
    rw [if_neg (by omega), if_pos (by omega), if_pos (by omega), if_pos (by omega)]
  | succ d ih =>
    intro i hi hst
    have hl : i < s.size := by omega
    rw [at_lt hl]
    by_cases hk : mrkB (s[i]'hl) = true
    · obtain ⟨e, h1, h2, h3, h4, h5⟩ := ih (i + 1) (by omega) (by omega)
      refine ⟨e, by omega, h2, ?_, ?_, signstep s st i hs hl hst hk _ h5⟩
      · rw [h3, List.dropWhile_cons, if_pos hk]
      · rw [List.takeWhile_cons, if_pos hk, List.length_cons]; omega
    · refine ⟨i, Nat.le_refl _, by omega, ?_, ?_, signstop s st i hs hl hst hk⟩
      · rw [at_lt hl, List.dropWhile_cons, if_neg hk]
      · rw [List.takeWhile_cons, if_neg hk]; simp
def closeM (x : S46) (r : B) : (Int ⊕ S46) × B := match r with
  | [] => (.inl 220, [])
  | c :: r => if c = 41 then (.inr x, dg r) else (.inl 220, c :: r)
def versM (nm : B) (op : Int) (r4 : B) : (Int ⊕ S46) × B :=
  if r4.takeWhile wrdB = [] then (.inl 220, r4) else if okS (ofL (r4.takeWhile wrdB)) = false then (.inl 200, r4) else
  closeM ⟨ofL nm, op, ofL (r4.takeWhile wrdB)⟩ (dg (r4.dropWhile wrdB))
def operM (nm : B) (r3 : B) : (Int ⊕ S46) × B :=
  if opOf (ofL (r3.takeWhile mrkB)) = 0 then (.inl 220, r3) else versM nm (opOf (ofL (r3.takeWhile mrkB))) (dg (r3.dropWhile mrkB))
def openM (nm : B) (r1 : B) : (Int ⊕ S46) × B := match r1 with
  | [] => (.inr ⟨ofL nm, 0, ⟨#[]⟩⟩, [])
  | c :: r => if c = 40 then operM nm (dg r) else (.inr ⟨ofL nm, 0, ⟨#[]⟩⟩, c :: r)
def relM (l : B) : (Int ⊕ S46) × B :=
  if l.takeWhile wrdB = [] then (.inl 220, l) else if nameM (l.takeWhile wrdB) = false then (.inl 230, l) else openM (l.takeWhile wrdB) (dg (l.dropWhile wrdB))
def relOut (s : ByteArray) (e : Int) : Int ⊕ S46 → ByteArray × Int × ByteArray × Int × ByteArray × Int
  | .inl er => noRel er s e
  | .inr x => (x.f0, x.f1, x.f2, 0, s, e)
theorem pass_ev (s : ByteArray) (hs : s.size ≤ 140737488351232) (i n : Nat) (h : i + n ≤ s.size) : ∃ e : Nat, i + n ≤ e ∧ e ≤ s.size ∧ at_ s e = dg (at_ s (i + n)) ∧ Ev (fun k => relation_reader_pass.f k s (i : Int) (n : Int)) (s, (e : Int)) := by
  obtain ⟨e, h1, h2, h3, h4⟩ := gaps_ev s hs (s.size - (i + n)) (i + n) (by omega)
  refine ⟨e, h1, h2, h3, ?_⟩
  unfold relation_reader_pass.f
  have ew : wrap64 ((i : Int) + (n : Int)) = ((i + n : Nat) : Int) := by rw [wrap_id (by omega) (by omega)]; omega
  simp only [ew]
  exact Ev.bind h4 (Ev.now _)
theorem takes_yes (s : ByteArray) (hs : s.size ≤ 140737488351232) (i : Nat) (c : Int) (h : i < s.size) (hc : bt s i = c) : ∃ e : Nat, i < e ∧ e ≤ s.size ∧ at_ s e = dg (at_ s (i + 1)) ∧ Ev (fun k => relation_reader_takes.f k s (i : Int) c) (true, s, (e : Int)) := by
  obtain ⟨e, h1, h2, h3, h4⟩ := pass_ev s hs i 1 (by omega)
  refine ⟨e, by omega, h2, h3, ?_⟩
  unfold relation_reader_takes.f
  simp only [if_neg (show ¬ (i : Int) = s.size by omega), if_pos (show (0 : Int) ≤ i by omega), if_pos (show (i : Int) < s.size by omega), if_pos hc]
  exact Ev.bind h4 (Ev.now _)
theorem takes_no (s : ByteArray) (i : Nat) (c : Int) (hi : i ≤ s.size) (h : i = s.size ∨ ¬ bt s i = c) : Ev (fun k => relation_reader_takes.f k s (i : Int) c) (false, s, (i : Int)) := by
  unfold relation_reader_takes.f
  by_cases he : i = s.size
  · simp only [if_pos (show (i : Int) = s.size by omega)]
    exact Ev.now _
  · have hb : ¬ bt s i = c := h.resolve_left he
    simp only [if_neg (show ¬ (i : Int) = s.size by omega), if_pos (show (0 : Int) ≤ i by omega), if_pos (show (i : Int) < s.size by omega), if_neg hb]
    exact Ev.now _
theorem close_ev (s : ByteArray) (hs : s.size ≤ 140737488351232) (i : Nat) (hi : i ≤ s.size) (x : S46) : ∃ e : Nat, i ≤ e ∧ e ≤ s.size ∧ at_ s e = (closeM x (at_ s i)).2 ∧
    Ev (fun k => (relation_reader_takes.f k s (i : Int) 41).bind fun x8 => if x8.1 = false then some (noRel 220 x8.2.1 x8.2.2) else some (x.f0, x.f1, x.f2, (0 : Int), x8.2.1, x8.2.2)) (relOut s (e : Int) (closeM x (at_ s i)).1) := by
  cases hl : at_ s i with
  | nil =>
    refine ⟨i, Nat.le_refl _, hi, hl, ?_⟩
    refine Ev.bind (takes_no s i 41 hi (.inl (at_nil hi hl))) ?_
    simp only [if_true, closeM, relOut]
    exact Ev.now _
  | cons c r =>
    obtain ⟨h1, h2, h3⟩ := at_cons hi hl
    by_cases hc : c = 41
    · subst hc
      obtain ⟨e, e1, e2, e3, e4⟩ := takes_yes s hs i 41 h1 h2
      refine ⟨e, by omega, e2, by rw [e3, h3]; simp [closeM], ?_⟩
      refine Ev.bind e4 ?_
      simp only [Bool.true_eq_false, if_false, closeM, if_true, relOut]
      exact Ev.now _
    · refine ⟨i, Nat.le_refl _, hi, by rw [hl]; simp [closeM, hc], ?_⟩
      refine Ev.bind (takes_no s i 41 hi (.inr ?_)) ?_
      · rw [h2]
        exact fun q => hc (toNat_inj.1 (show (c.toNat : Int) = ((41 : UInt8).toNat : Int) from q))
      · simp only [if_true, closeM, if_neg hc, relOut]
        exact Ev.now _
theorem vers_ev (s : ByteArray) (hs : s.size ≤ 140737488351232) (i : Nat) (hi : i ≤ s.size) (nm : B) (op : Int) : ∃ e : Nat, i ≤ e ∧ e ≤ s.size ∧ at_ s e = (versM nm op (at_ s i)).2 ∧
    Ev (fun k => (relation_reader_run.f k s (i : Int) false).bind fun x6 => if x6.1.toList = [] then some (noRel 220 x6.2.1 x6.2.2) else
      (version_Legal.f k x6.1).bind fun lg => if lg = false then some (noRel 200 x6.2.1 x6.2.2) else
      (relation_reader_pass.f k x6.2.1 x6.2.2 x6.1.size).bind fun x7 => (relation_reader_takes.f k x7.1 x7.2 41).bind fun x8 => if x8.1 = false then some (noRel 220 x8.2.1 x8.2.2) else some (ofL nm, op, x6.1, (0 : Int), x8.2.1, x8.2.2)) (relOut s (e : Int) (versM nm op (at_ s i)).1) := by
  obtain ⟨x, hx1, hx2, hx3, hx4, hx5⟩ := word_ev s i hs (s.size - i) i (by omega) (Nat.le_refl _)
  have hv : s.extract (i : Int).toNat (x : Int).toNat = ofL ((at_ s i).takeWhile wrdB) := by rw [ext_at, hx4, take_tw]
  rw [hv] at hx5
  have hr : Ev (fun k => relation_reader_run.f k s (i : Int) false) (ofL ((at_ s i).takeWhile wrdB), s, (i : Int)) := hx5
  by_cases e1 : (at_ s i).takeWhile wrdB = []
  · refine ⟨i, Nat.le_refl _, hi, by simp only [versM, if_pos e1], ?_⟩
    refine Ev.bind hr ?_
    simp only [ofL_list, if_pos e1, versM, relOut]
    exact Ev.now _
  have hL := plegal_ev (ofL ((at_ s i).takeWhile wrdB)) (by rw [ofL_size]; omega)
  by_cases e2 : okS (ofL ((at_ s i).takeWhile wrdB)) = false
  · refine ⟨i, Nat.le_refl _, hi, by simp only [versM, if_neg e1, if_pos e2], ?_⟩
    refine Ev.bind hr ?_
    simp only [ofL_list, if_neg e1]
    refine Ev.bind hL ?_
    simp only [if_pos e2, versM, if_neg e1, relOut]
    exact Ev.now _
  obtain ⟨p, hp1, hp2, hp3, hp4⟩ := pass_ev s hs i (x - i) (by omega)
  rw [show i + (x - i) = x by omega, hx3] at hp3
  obtain ⟨e, c1, c2, c3, c4⟩ := close_ev s hs p hp2 ⟨ofL nm, op, ofL ((at_ s i).takeWhile wrdB)⟩
  rw [hp3] at c3 c4
  refine ⟨e, by omega, c2, by rw [c3]; simp only [versM, if_neg e1, if_neg e2], ?_⟩
  refine Ev.bind hr ?_
  simp only [ofL_list, if_neg e1]
  refine Ev.bind hL ?_
  simp only [if_neg e2, versM, if_neg e1, ofL_size, ← hx4]
  exact Ev.bind hp4 c4
theorem oper_ev (s : ByteArray) (hs : s.size ≤ 140737488351232) (i : Nat) (hi : i ≤ s.size) (nm : B) : ∃ e : Nat, i ≤ e ∧ e ≤ s.size ∧ at_ s e = (operM nm (at_ s i)).2 ∧
    Ev (fun k => (relation_reader_run.f k s (i : Int) true).bind fun x4 => if opOf x4.1 = 0 then some (noRel 220 x4.2.1 x4.2.2) else
      (relation_reader_pass.f k x4.2.1 x4.2.2 x4.1.size).bind fun x5 => (relation_reader_run.f k x5.1 x5.2 false).bind fun x6 => if x6.1.toList = [] then some (noRel 220 x6.2.1 x6.2.2) else
      (version_Legal.f k x6.1).bind fun lg => if lg = false then some (noRel 200 x6.2.1 x6.2.2) else
      (relation_reader_pass.f k x6.2.1 x6.2.2 x6.1.size).bind fun x7 => (relation_reader_takes.f k x7.1 x7.2 41).bind fun x8 => if x8.1 = false then some (noRel 220 x8.2.1 x8.2.2) else some (ofL nm, opOf x4.1, x6.1, (0 : Int), x8.2.1, x8.2.2)) (relOut s (e : Int) (operM nm (at_ s i)).1) := by
  obtain ⟨x, hx1, hx2, hx3, hx4, hx5⟩ := sign_ev s i hs (s.size - i) i (by omega) (Nat.le_refl _)
  have hv : s.extract (i : Int).toNat (x : Int).toNat = ofL ((at_ s i).takeWhile mrkB) := by rw [ext_at, hx4, take_tw]
  rw [hv] at hx5
  have hr : Ev (fun k => relation_reader_run.f k s (i : Int) true) (ofL ((at_ s i).takeWhile mrkB), s, (i : Int)) := hx5
  by_cases e1 : opOf (ofL ((at_ s i).takeWhile mrkB)) = 0
  · refine ⟨i, Nat.le_refl _, hi, by simp only [operM, if_pos e1], ?_⟩
    refine Ev.bind hr ?_
    simp only [if_pos e1, operM, relOut]
    exact Ev.now _
  obtain ⟨p, hp1, hp2, hp3, hp4⟩ := pass_ev s hs i (x - i) (by omega)
  rw [show i + (x - i) = x by omega, hx3] at hp3
  obtain ⟨e, c1, c2, c3, c4⟩ := vers_ev s hs p hp2 nm (opOf (ofL ((at_ s i).takeWhile mrkB)))
  rw [hp3] at c3 c4
  refine ⟨e, by omega, c2, by rw [c3]; simp only [operM, if_neg e1], ?_⟩
  refine Ev.bind hr ?_
  simp only [if_neg e1, operM, ofL_size, ← hx4]
  exact Ev.bind hp4 c4
theorem rel_ev (s : ByteArray) (hs : s.size ≤ 140737488351232) (i : Nat) (hi : i ≤ s.size) : ∃ e : Nat, i ≤ e ∧ e ≤ s.size ∧ at_ s e = (relM (at_ s i)).2 ∧
    Ev (fun k => relation_reader_relation.f k s (i : Int)) (relOut s (e : Int) (relM (at_ s i)).1) := by
  obtain ⟨x, hx1, hx2, hx3, hx4, hx5⟩ := word_ev s i hs (s.size - i) i (by omega) (Nat.le_refl _)
  have hv : s.extract (i : Int).toNat (x : Int).toNat = ofL ((at_ s i).takeWhile wrdB) := by rw [ext_at, hx4, take_tw]
  rw [hv] at hx5
  have hr : Ev (fun k => relation_reader_run.f k s (i : Int) false) (ofL ((at_ s i).takeWhile wrdB), s, (i : Int)) := hx5
  unfold relation_reader_relation.f
  by_cases e1 : (at_ s i).takeWhile wrdB = []
  · refine ⟨i, Nat.le_refl _, hi, by simp only [relM, if_pos e1], ?_⟩
    refine Ev.bind hr ?_
    simp only [ofL_list, if_pos e1, relM, relOut]
    exact Ev.now _
  have hN := name_ev (ofL ((at_ s i).takeWhile wrdB)) (by rw [ofL_size]; omega)
  rw [toL_ofL] at hN
  by_cases e2 : nameM ((at_ s i).takeWhile wrdB) = false
  · refine ⟨i, Nat.le_refl _, hi, by simp only [relM, if_neg e1, if_pos e2], ?_⟩
    refine Ev.bind hr ?_
    simp only [ofL_list, if_neg e1]
    refine Ev.bind hN ?_
    simp only [if_pos e2, relM, if_neg e1, relOut]
    exact Ev.now _
  obtain ⟨p, hp1, hp2, hp3, hp4⟩ := pass_ev s hs i (x - i) (by omega)
  rw [show i + (x - i) = x by omega, hx3] at hp3
  have hP : ∀ {v}, Ev (fun k => (relation_reader_takes.f k s (p : Int) 40).bind fun x3 => if x3.1 = false then some (ofL ((at_ s i).takeWhile wrdB), 0, ⟨#[]⟩, 0, x3.2.1, x3.2.2) else
      (relation_reader_run.f k x3.2.1 x3.2.2 true).bind fun x4 => if opOf x4.1 = 0 then some (noRel 220 x4.2.1 x4.2.2) else
      (relation_reader_pass.f k x4.2.1 x4.2.2 x4.1.size).bind fun x5 => (relation_reader_run.f k x5.1 x5.2 false).bind fun x6 => if x6.1.toList = [] then some (noRel 220 x6.2.1 x6.2.2) else
      (version_Legal.f k x6.1).bind fun lg => if lg = false then some (noRel 200 x6.2.1 x6.2.2) else
      (relation_reader_pass.f k x6.2.1 x6.2.2 x6.1.size).bind fun x7 => (relation_reader_takes.f k x7.1 x7.2 41).bind fun x8 => if x8.1 = false then some (noRel 220 x8.2.1 x8.2.2) else some (ofL ((at_ s i).takeWhile wrdB), opOf x4.1, x6.1, 0, x8.2.1, x8.2.2)) v →
      Ev (fun k => (relation_reader_run.f k s (i : Int) false).bind fun x1 => if x1.1.toList = [] then some (noRel 220 x1.2.1 x1.2.2) else
      (relation_Name.f k x1.1).bind fun nm => if nm = false then some (noRel 230 x1.2.1 x1.2.2) else
      (relation_reader_pass.f k x1.2.1 x1.2.2 x1.1.size).bind fun x2 => (relation_reader_takes.f k x2.1 x2.2 40).bind fun x3 => if x3.1 = false then some (x1.1, 0, ⟨#[]⟩, 0, x3.2.1, x3.2.2) else
      (relation_reader_run.f k x3.2.1 x3.2.2 true).bind fun x4 => if opOf x4.1 = 0 then some (noRel 220 x4.2.1 x4.2.2) else
      (relation_reader_pass.f k x4.2.1 x4.2.2 x4.1.size).bind fun x5 => (relation_reader_run.f k x5.1 x5.2 false).bind fun x6 => if x6.1.toList = [] then some (noRel 220 x6.2.1 x6.2.2) else
      (version_Legal.f k x6.1).bind fun lg => if lg = false then some (noRel 200 x6.2.1 x6.2.2) else
      (relation_reader_pass.f k x6.2.1 x6.2.2 x6.1.size).bind fun x7 => (relation_reader_takes.f k x7.1 x7.2 41).bind fun x8 => if x8.1 = false then some (noRel 220 x8.2.1 x8.2.2) else some (x1.1, opOf x4.1, x6.1, 0, x8.2.1, x8.2.2)) v := by
    intro v h
    refine Ev.bind hr ?_
    simp only [ofL_list, if_neg e1]
    refine Ev.bind hN ?_
    simp only [if_neg e2, ofL_size, ← hx4]
    exact Ev.bind hp4 h
  have eM : relM (at_ s i) = openM ((at_ s i).takeWhile wrdB) (at_ s p) := by
    rw [hp3]
    simp only [relM, if_neg e1, if_neg e2]
  rw [eM]
  clear hr hN hp4
  cases hl : at_ s p with
  | nil =>
    refine ⟨p, by omega, hp2, hl, hP ?_⟩
    refine Ev.bind (takes_no s p 40 hp2 (.inl (at_nil hp2 hl))) ?_
    simp only [if_true, openM, relOut]
    exact Ev.now _
  | cons c r =>
    obtain ⟨h1, h2, h3⟩ := at_cons hp2 hl
    by_cases hc : c = 40
    · subst hc
      obtain ⟨q, q1, q2, q3, q4⟩ := takes_yes s hs p 40 h1 h2
      rw [h3] at q3
      obtain ⟨e, c1, c2, c3, c4⟩ := oper_ev s hs q q2 ((at_ s i).takeWhile wrdB)
      rw [q3] at c3 c4
      refine ⟨e, by omega, c2, by rw [c3]; simp only [openM, if_true], hP ?_⟩
      refine Ev.bind q4 ?_
      simp only [Bool.true_eq_false, if_false, openM, if_true]
      exact c4
    · refine ⟨p, by omega, hp2, by rw [hl]; simp only [openM, if_neg hc], hP ?_⟩
      refine Ev.bind (takes_no s p 40 hp2 (.inr ?_)) ?_
      · rw [h2]
        exact fun q => hc (toNat_inj.1 (show (c.toNat : Int) = ((40 : UInt8).toNat : Int) from q))
      · simp only [if_true, openM, if_neg hc, relOut]
        exact Ev.now _
end Go.Proofs.YtmocooihkobdjaaDoor.Model
end
section
set_option linter.unusedVariables false
set_option linter.unusedSimpArgs false
namespace Go.Proofs.YtmocooihkobdjaaDoor.Model
open Go.RowKit Go.Proofs.YtmocooihkobdjaaDoor.T Go.Proofs.YtmocooihkobdjaaDoorW.PrintWords Go.Proofs.YtmocooihkobdjaaDoorW.PrintLast Go.Proofs.YtmocooihkobdjaaDoor.Ver
def formM (x : S46) : Bool := nameM x.f0.data.toList && (if x.f1 = 0 then x.f2.toList == ([] : List UInt8) else if (wordOf x.f1).toList = ([] : List UInt8) then false else okS x.f2)
def okL (L : List (List S46)) : Bool := L.all (fun m => !m.isEmpty && m.all formM)
theorem rd_at {L : List (List S46)} {i : Nat} (h : i < L.length) : rd_L3 L (i : Int) = L[i] := by
  unfold rd_L3
  rw [Int.toNat_natCast, List.getD_eq_getElem?_getD, List.getElem?_eq_getElem h, Option.getD_some]
theorem drop_at {α : Type} {l : List α} {i : Nat} (h : i < l.length) : l.drop i = l[i] :: l.drop (i + 1) := List.drop_eq_getElem_cons h
theorem row_len {L : List (List S46)} {m : List S46} (h : m ∈ L) : m.length ≤ L.flatten.length := by
  induction L with
  | nil => cases h
  | cons a L ih =>
    simp only [List.flatten_cons, List.length_append]
    rcases List.mem_cons.1 h with q | q
    · rw [q]; omega
    · have := ih q; omega
def full (L : List (List S46)) : Bool := L.all (fun m => !m.isEmpty)
def fair (L : List (List S46)) : Bool := L.all (fun m => m.all formM)
theorem okL_parts (L : List (List S46)) : okL L = (full L && fair L) := by
  unfold okL full fair
  induction L with
  | nil => rfl
  | cons m L ih =>
    rw [List.all_cons, List.all_cons, List.all_cons, ih]
    cases m.isEmpty <;> cases m.all formM <;> simp
theorem fair_flat (L : List (List S46)) : L.flatten.all formM = fair L := by
  unfold fair
  induction L with
  | nil => rfl
  | cons m L ih => rw [List.flatten_cons, List.all_append, List.all_cons, ih]
end Go.Proofs.YtmocooihkobdjaaDoor.Model
end
section
set_option linter.unusedVariables false
set_option linter.unusedSimpArgs false
namespace Go.Proofs.YtmocooihkobdjaaDoor.Model
open Go.RowKit Go.Proofs.YtmocooihkobdjaaDoor.T Go.Proofs.YtmocooihkobdjaaDoorW.PrintWords Go.Proofs.YtmocooihkobdjaaDoorW.PrintLast Go.Proofs.YtmocooihkobdjaaDoor.Ver
theorem dg_le (l : B) : (dg l).length ≤ l.length := (List.dropWhile_sublist _).length_le
theorem dg_dg (l : B) : dg (dg l) = dg l := by
  unfold dg
  induction l with
  | nil => rfl
  | cons c l ih =>
    rw [List.dropWhile_cons]
    split
    · exact ih
    · rw [List.dropWhile_cons]; rw [if_neg ‹_›]
theorem tw_dw (p : UInt8 → Bool) (l : B) : (l.takeWhile p).length + (l.dropWhile p).length = l.length := by
  have := congrArg List.length (List.takeWhile_append_dropWhile (p := p) (l := l))
  rw [List.length_append] at this
  exact this
def relSize (x : S46) : Nat := x.f0.size + x.f2.size
theorem word_op (m : ByteArray) (h : ¬ opOf m = 0) : wordOf (opOf m) = m := by
  have hm : m = ofL m.toList := by
    obtain ⟨⟨x⟩⟩ := m
    rw [ByteArray.toList_eq]; rfl
  obtain ⟨i1, i2, i3, i4, i5⟩ := opOf_iff m
  have hb := opOf_bd m
  have hc : opOf m = 1 ∨ opOf m = 2 ∨ opOf m = 3 ∨ opOf m = 4 ∨ opOf m = 5 := by omega
  rcases hc with e | e | e | e | e
  · rw [e, hm, i1.1 e]; rfl
  · rw [e, hm, i2.1 e]; rfl
  · rw [e, hm, i3.1 e]; rfl
  · rw [e, hm, i4.1 e]; rfl
  · rw [e, hm, i5.1 e]; rfl
theorem closeM_inr {x y : S46} {l r : B} (h : closeM x l = (.inr y, r)) : y = x ∧ r.length < l.length ∧ dg r = r := by
  unfold closeM at h
  split at h
  · simp at h
  · split at h
    · simp only [Prod.mk.injEq, Sum.inr.injEq] at h
      obtain ⟨rfl, rfl⟩ := h
      rename_i c r' _
      have := dg_le r'
      exact ⟨rfl, by simp only [List.length_cons]; omega, dg_dg _⟩
    · simp at h
theorem closeM_inl {x : S46} {e : Int} {l r : B} (h : closeM x l = (.inl e, r)) : e = 220 ∧ r.length ≤ l.length := by
  unfold closeM at h
  split at h
  · simp only [Prod.mk.injEq, Sum.inl.injEq] at h
    obtain ⟨rfl, rfl⟩ := h
    exact ⟨rfl, Nat.le_refl _⟩
  · split at h
    · simp at h
    · simp only [Prod.mk.injEq, Sum.inl.injEq] at h
      obtain ⟨rfl, rfl⟩ := h
      exact ⟨rfl, Nat.le_refl _⟩
theorem versM_inr {nm : B} {op : Int} {y : S46} {l r : B} (h : versM nm op l = (.inr y, r)) : y.f0 = ofL nm ∧ y.f1 = op ∧ okS y.f2 = true ∧ y.f2.size + r.length < l.length ∧ dg r = r := by
  unfold versM at h
  split at h
  · simp at h
  · split at h
    · simp at h
    · rename_i h1 h2
      obtain ⟨rfl, h3, h4⟩ := closeM_inr h
      refine ⟨rfl, rfl, by simpa using h2, ?_, h4⟩
      have a1 := tw_dw wrdB l
      have a2 := dg_le (l.dropWhile wrdB)
      simp only [ofL_size]
      omega
theorem versM_inl {nm : B} {op : Int} {e : Int} {l r : B} (h : versM nm op l = (.inl e, r)) : (e = 220 ∨ e = 200) ∧ r.length ≤ l.length := by
  unfold versM at h
  split at h
  · simp only [Prod.mk.injEq, Sum.inl.injEq] at h
    obtain ⟨rfl, rfl⟩ := h
    exact ⟨.inl rfl, Nat.le_refl _⟩
  · split at h
    · simp only [Prod.mk.injEq, Sum.inl.injEq] at h
      obtain ⟨rfl, rfl⟩ := h
      exact ⟨.inr rfl, Nat.le_refl _⟩
    · obtain ⟨rfl, h3⟩ := closeM_inl h
      have a1 := tw_dw wrdB l
      have a2 := dg_le (l.dropWhile wrdB)
      exact ⟨.inl rfl, by omega⟩
theorem operM_inr {nm : B} {y : S46} {l r : B} (h : operM nm l = (.inr y, r)) : y.f0 = ofL nm ∧ ¬ y.f1 = 0 ∧ ¬ (wordOf y.f1).toList = [] ∧ okS y.f2 = true ∧ y.f2.size + r.length < l.length ∧ dg r = r := by
  unfold operM at h
  split at h
  · simp at h
  · rename_i h1
    obtain ⟨a, b, c, d, e⟩ := versM_inr h
    have a1 := tw_dw mrkB l
    have a2 := dg_le (l.dropWhile mrkB)
    refine ⟨a, by rw [b]; exact h1, ?_, c, by omega, e⟩
    rw [b, word_op _ h1, ofL_list]
    intro q
    rw [q] at h1
    exact h1 (by unfold opOf; simp [ofL_list])
theorem operM_inl {nm : B} {e : Int} {l r : B} (h : operM nm l = (.inl e, r)) : (e = 220 ∨ e = 200) ∧ r.length ≤ l.length := by
  unfold operM at h
  split at h
  · simp only [Prod.mk.injEq, Sum.inl.injEq] at h
    obtain ⟨rfl, rfl⟩ := h
    exact ⟨.inl rfl, Nat.le_refl _⟩
  · obtain ⟨h1, h3⟩ := versM_inl h
    have a1 := tw_dw mrkB l
    have a2 := dg_le (l.dropWhile mrkB)
    exact ⟨h1, by omega⟩
theorem openM_inr {nm : B} {y : S46} {l r : B} (h : openM nm l = (.inr y, r)) (hd : dg l = l) : y.f0 = ofL nm ∧ ((y.f1 = 0 ∧ y.f2 = ⟨#[]⟩) ∨ (¬ y.f1 = 0 ∧ ¬ (wordOf y.f1).toList = [] ∧ okS y.f2 = true)) ∧ y.f2.size + r.length ≤ l.length ∧ dg r = r := by
  unfold openM at h
  split at h
  · simp only [Prod.mk.injEq, Sum.inr.injEq] at h
    obtain ⟨rfl, rfl⟩ := h
    exact ⟨rfl, .inl ⟨rfl, rfl⟩, Nat.le_refl _, rfl⟩
  · split at h
    · obtain ⟨a, b, c, d, e, f⟩ := operM_inr h
      rename_i c' r' _
      have := dg_le r'
      exact ⟨a, .inr ⟨b, c, d⟩, by simp only [List.length_cons]; omega, f⟩
    · simp only [Prod.mk.injEq, Sum.inr.injEq] at h
      obtain ⟨rfl, rfl⟩ := h
      exact ⟨rfl, .inl ⟨rfl, rfl⟩, by show 0 + _ ≤ _; omega, hd⟩
theorem openM_inl {nm : B} {e : Int} {l r : B} (h : openM nm l = (.inl e, r)) : (e = 220 ∨ e = 200) ∧ r.length ≤ l.length := by
  unfold openM at h
  split at h
  · simp at h
  · split at h
    · obtain ⟨a, b⟩ := operM_inl h
      rename_i c' r' _
      have := dg_le r'
      exact ⟨a, by simp only [List.length_cons]; omega⟩
    · simp at h
theorem relM_inr {y : S46} {l r : B} (h : relM l = (.inr y, r)) : formM y = true ∧ 1 ≤ y.f0.size ∧ relSize y + r.length ≤ l.length ∧ dg r = r := by
  unfold relM at h
  split at h
  · simp at h
  · split at h
    · simp at h
    · rename_i h1 h2
      obtain ⟨a, b, c, d⟩ := openM_inr h (dg_dg _)
      have a1 := tw_dw wrdB l
      have a2 := dg_le (l.dropWhile wrdB)
      have hn : nameM y.f0.data.toList = true := by rw [a, toL_ofL]; simpa using h2
      have hz : 1 ≤ (l.takeWhile wrdB).length := by
        rcases Nat.eq_zero_or_pos (l.takeWhile wrdB).length with q | q
        · exact absurd (List.eq_nil_of_length_eq_zero q) h1
        · exact q
      refine ⟨?_, by rw [a, ofL_size]; exact hz, ?_, d⟩
      · unfold formM
        rw [hn]
        rcases b with ⟨b1, b2⟩ | ⟨b1, b2, b3⟩
        · rw [if_pos b1, b2]
          show (true && ((ofL []).toList == [])) = true
          rw [ofL_list]; rfl
        · rw [if_neg b1, if_neg b2, b3]; rfl
      · unfold relSize
        rw [a, ofL_size]
        omega
theorem relM_inl {e : Int} {l r : B} (h : relM l = (.inl e, r)) : (e = 220 ∨ e = 230 ∨ e = 200) ∧ r.length ≤ l.length := by
  unfold relM at h
  split at h
  · simp only [Prod.mk.injEq, Sum.inl.injEq] at h
    obtain ⟨rfl, rfl⟩ := h
    exact ⟨.inl rfl, Nat.le_refl _⟩
  · split at h
    · simp only [Prod.mk.injEq, Sum.inl.injEq] at h
      obtain ⟨rfl, rfl⟩ := h
      exact ⟨.inr (.inl rfl), Nat.le_refl _⟩
    · obtain ⟨h1, h3⟩ := openM_inl h
      have a1 := tw_dw wrdB l
      have a2 := dg_le (l.dropWhile wrdB)
      exact ⟨by rcases h1 with h1 | h1 <;> simp [h1], by omega⟩
def listsM (bars : Bool) : Nat → List (List S46) → List S46 → B → List (List S46) × Int × B
  | 0, _, _, l => ([], 0, l)
  | d + 1, x8, x10, l => match relM l with
    | (.inl e, r) => ([], e, r)
    | (.inr x, []) => (x8 ++ [x10 ++ [x]], 0, [])
    | (.inr x, c :: r) =>
      if c = 124 ∧ bars = true then listsM bars d x8 (x10 ++ [x]) (dg r)
      else if c = 44 then listsM bars d (x8 ++ [x10 ++ [x]]) [] (dg r)
      else ([], 220, c :: r)
def readM (bars : Bool) (l : B) : List (List S46) × Int × B :=
  if dg l = [] then ([], 0, []) else listsM bars ((dg l).length + 1) [] [] (dg l)
def placeM (s : ByteArray) (R : List (List S46) × Int × B) : List (List S46) × Int × Int := (R.1, R.2.1, if R.2.1 = 0 then 0 else ((s.size - R.2.2.length : Nat) : Int))
theorem place_at {s : ByteArray} {e : Nat} {r : B} (he : e ≤ s.size) (h : at_ s e = r) : s.size - r.length = e := by
  rw [← h, at_len]
  omega
theorem lists_ev (s : ByteArray) (hs : s.size ≤ 140737488351232) (hb : s.size ≤ 3000000000000) (bars : Bool) : ∀ (d i : Nat), s.size - i < d → i ≤ s.size → ∀ (x8 : List (List S46)) (x10 : List S46), x8.length + x10.length ≤ i →
    Ev (fun k => relation_read.l1 k s bars x8 x10 true s (i : Int)) (placeM s (listsM bars d x8 x10 (at_ s i))) := by
  intro d
  induction d with
  | zero => intro i hd; exact absurd hd (by omega)
  | succ d ih =>
    intro i hd hi x8 x10 hlen
    obtain ⟨e, he1, he2, he3, hp⟩ := rel_ev s hs i hi
    have hP : ∀ {v}, Ev (fun k => ((relation_reader_relation.f k s (i : Int)).bind fun bt126 => (if bt126.2.2.2.1 = 0 then (if x10.length < 3518437208883 then ((some (x10 ++ [(⟨bt126.1, bt126.2.1, bt126.2.2.1⟩ : S46)] : List (S46))).bind fun y133 => (if bars = true then ((relation_reader_takes.f k bt126.2.2.2.2.1 bt126.2.2.2.2.2 124).bind fun bt136 => (relation_read.l1 k s bars x8 y133 bt136.1 bt136.2.1 bt136.2.2)) else (relation_read.l1 k s bars x8 y133 false bt126.2.2.2.2.1 bt126.2.2.2.2.2))) else (none)) else (some (([] : List (List (S46))), bt126.2.2.2.1, bt126.2.2.2.2.2))))) v → Ev (fun k => relation_read.l1 k s bars x8 x10 true s (i : Int)) v := by
      intro v h
      refine Ev.step (f := _) (fun k => ?_) h
      simp only [relation_read.l1, if_true]
    rw [listsM]
    cases hR : relM (at_ s i) with
    | mk q r =>
    rw [hR] at hp he3
    cases q with
    | inl er =>
      have hne : ¬ er = 0 := by
        rcases (relM_inl hR).1 with h | h | h <;> omega
      refine hP (Ev.bind hp ?_)
      simp only [relOut, noRel, placeM, hne, if_false]
      rw [place_at he2 he3]
      exact Ev.now _
    | inr x =>
      obtain ⟨f1, f2, f3, f4⟩ := relM_inr hR
      have hie : i < e := by
        have := at_len s i
        have h2 := at_len s e
        simp only at he3
        rw [he3] at h2
        unfold relSize at f3
        omega
      have hP2 : ∀ {v}, Ev (fun k => if bars = true then ((relation_reader_takes.f k s (e : Int) 124).bind fun bt136 => (relation_read.l1 k s bars x8 (x10 ++ [x]) bt136.1 bt136.2.1 bt136.2.2)) else (relation_read.l1 k s bars x8 (x10 ++ [x]) false s (e : Int))) v → Ev (fun k => relation_read.l1 k s bars x8 x10 true s (i : Int)) v := by
        intro v h
        refine hP (Ev.bind hp ?_)
        simp only [relOut, if_true, if_pos (show x10.length < 3518437208883 by omega), Option.bind_some]
        exact h
      have hyl : (x10 ++ [x]).length = x10.length + 1 := by simp
      have hlen8 : (x8 ++ [x10 ++ [x]]).length = x8.length + 1 := by simp
      have hP3 : ∀ {v}, Ev (fun k => relation_read.l1 k s bars x8 (x10 ++ [x]) false s (e : Int)) v → (bars = true → e = s.size ∨ ¬ bt s (e : Int) = 124) → Ev (fun k => relation_read.l1 k s bars x8 x10 true s (i : Int)) v := by
        intro v h hno
        refine hP2 ?_
        by_cases hbars : bars = true
        · simp only [if_pos hbars]
          exact Ev.bind (takes_no s e 124 he2 (hno hbars)) h
        · simp only [if_neg hbars]
          exact h
      have hP4 : ∀ {v}, Ev (fun k => (relation_reader_takes.f k s (e : Int) 44).bind fun bt123 => (relation_read.l0 k s bars (x8 ++ [x10 ++ [x]]) bt123.1 bt123.2.1 bt123.2.2)) v → (bars = true → e = s.size ∨ ¬ bt s (e : Int) = 124) → Ev (fun k => relation_read.l1 k s bars x8 x10 true s (i : Int)) v := by
        intro v h hno
        refine hP3 (Ev.step (f := _) (fun k => ?_) h) hno
        simp only [relation_read.l1, Bool.false_eq_true, if_false, if_pos (show x8.length < 5864062014805 by omega)]
      cases r with
      | nil =>
        have hes := at_nil he2 he3
        simp only [placeM, if_true]
        refine hP4 ?_ (fun _ => .inl hes)
        refine Ev.bind (takes_no s e 44 he2 (.inl hes)) ?_
        refine Ev.step (f := fun _ => some (x8 ++ [x10 ++ [x]], 0, 0)) (fun k => ?_) (Ev.now _)
        simp only [relation_read.l0, Bool.false_eq_true, if_false, if_neg (show ¬ (e : Int) < s.size by omega)]
      | cons c r =>
        obtain ⟨h1, h2, h3⟩ := at_cons he2 he3
        simp only
        by_cases hC : c = 124 ∧ bars = true
        · rw [if_pos hC]
          obtain ⟨hc, hbars⟩ := hC
          subst hc
          obtain ⟨f, hf1, hf2, hf3, hf4⟩ := takes_yes s hs e 124 h1 h2
          rw [h3] at hf3
          refine hP2 ?_
          simp only [if_pos hbars]
          refine Ev.bind hf4 ?_
          rw [← hf3]
          exact ih f (by omega) hf2 x8 (x10 ++ [x]) (by omega)
        · have hno : bars = true → e = s.size ∨ ¬ bt s (e : Int) = 124 := by
            intro hbars
            right
            rw [h2]
            exact fun q => hC ⟨toNat_inj.1 (show (c.toNat : Int) = ((124 : UInt8).toNat : Int) from q), hbars⟩
          rw [if_neg hC]
          by_cases hc : c = 44
          · rw [if_pos hc]
            subst hc
            obtain ⟨f, hf1, hf2, hf3, hf4⟩ := takes_yes s hs e 44 h1 h2
            rw [h3] at hf3
            refine hP4 ?_ hno
            refine Ev.bind hf4 ?_
            rw [← hf3]
            refine Ev.step (f := _) (fun k => ?_) (ih f (by omega) hf2 (x8 ++ [x10 ++ [x]]) [] (by rw [hlen8]; simp only [List.length_nil]; omega))
            simp only [relation_read.l0, if_true]
          · rw [if_neg hc]
            have hpl := place_at he2 he3
            simp only [placeM]
            rw [hpl]
            refine hP4 ?_ hno
            refine Ev.bind (takes_no s e 44 he2 (.inr ?_)) ?_
            · rw [h2]
              exact fun q => hc (toNat_inj.1 (show (c.toNat : Int) = ((44 : UInt8).toNat : Int) from q))
            · refine Ev.step (f := fun _ => some ([], 220, (e : Int))) (fun k => ?_) (Ev.now _)
              simp only [relation_read.l0, Bool.false_eq_true, if_false, if_pos (show (e : Int) < s.size by omega)]
theorem read_ev (s : ByteArray) (hb : s.size ≤ 3000000000000) (bars : Bool) : Ev (fun k => relation_read.f k s bars) (placeM s (readM bars s.data.toList)) := by
  have hs : s.size ≤ 140737488351232 := by omega
  obtain ⟨i, h1, h2, h3, hp⟩ := gaps_ev s hs s.size 0 (by omega)
  rw [at_zero] at h3
  unfold relation_read.f readM
  rw [← h3]
  refine Ev.bind hp ?_
  by_cases he : i = s.size
  · subst he
    simp only [if_true, at_end, placeM]
    exact Ev.now _
  · have hne : ¬ at_ s i = [] := fun q => he (at_nil h2 q)
    simp only [if_neg (show ¬ (i : Int) = s.size by omega), if_neg hne]
    refine Ev.step (f := _) (fun k => ?_) (lists_ev s hs hb bars ((at_ s i).length + 1) i (by rw [at_len]; omega) h2 [] [] (by simp))
    simp only [relation_read.l0, if_true]
end Go.Proofs.YtmocooihkobdjaaDoor.Model
end
section
set_option linter.unusedVariables false
set_option linter.unusedSimpArgs false
namespace Go.Proofs.YtmocooihkobdjaaDoor.Model
open Go.RowKit Go.Proofs.YtmocooihkobdjaaDoor.T Go.Proofs.YtmocooihkobdjaaDoorW.PrintWords Go.Proofs.YtmocooihkobdjaaDoorW.PrintLast Go.Proofs.YtmocooihkobdjaaDoor.Ver
def wt (l : List S46) : Nat := (l.map relSize).sum
theorem wt_one (x : S46) : wt [x] = relSize x := by simp [wt]
theorem wt_len {l : List S46} (h : ∀ x ∈ l, 1 ≤ x.f0.size) : l.length ≤ wt l := by
  induction l with
  | nil => exact Nat.zero_le _
  | cons x l ih =>
    have h1 := ih (fun y hy => h y (List.mem_cons_of_mem _ hy))
    have h2 := h x (List.mem_cons_self ..)
    have h3 : wt (x :: l) = relSize x + wt l := by simp [wt]
    rw [h3, List.length_cons]
    unfold relSize
    omega
def Good (x : S46) : Prop := formM x = true ∧ 1 ≤ x.f0.size
theorem listsM_ok (bars : Bool) : ∀ (d : Nat) (x8 : List (List S46)) (x10 : List S46) (l : B), l.length < d → (listsM bars d x8 x10 l).2.1 = 0 →
    (listsM bars d x8 x10 l).2.2 = [] ∧ ∃ t rest, (listsM bars d x8 x10 l).1 = x8 ++ (x10 ++ t) :: rest ∧ t ≠ [] ∧ (∀ m ∈ rest, m ≠ []) ∧ (∀ x ∈ t ++ rest.flatten, Good x) ∧ wt (t ++ rest.flatten) ≤ l.length := by
  intro d
  induction d with
  | zero => intro x8 x10 l h; omega
  | succ d ih =>
    intro x8 x10 l hd
    rw [listsM]
    split
    · rename_i e r hR
      intro h0
      have := (relM_inl hR).1
      simp only at h0
      omega
    · rename_i x hR
      intro _
      obtain ⟨f1, f2, f3, f4⟩ := relM_inr hR
      refine ⟨rfl, [x], [], by simp, by simp, by simp, ?_, ?_⟩
      · intro y hy
        obtain rfl : y = x := by simpa using hy
        exact ⟨f1, f2⟩
      · simp only [List.flatten_nil, List.append_nil, wt_one]
        simp at f3
        omega
    · rename_i x c r hR
      obtain ⟨f1, f2, f3, f4⟩ := relM_inr hR
      have hg := dg_le r
      simp only [List.length_cons] at f3
      have hsz : 1 ≤ relSize x := by unfold relSize; omega
      split
      · intro h0
        obtain ⟨a, t, rest, b1, b2, b3, b4, b5⟩ := ih x8 (x10 ++ [x]) (dg r) (by omega) h0
        refine ⟨a, x :: t, rest, by rw [b1]; simp, by simp, b3, ?_, ?_⟩
        · intro y hy
          rcases List.mem_cons.1 (show y ∈ x :: (t ++ rest.flatten) from hy) with q | q
          · rw [q]; exact ⟨f1, f2⟩
          · exact b4 y q
        · have : wt (x :: t ++ rest.flatten) = relSize x + wt (t ++ rest.flatten) := by simp [wt]
          omega
      · split
        · intro h0
          obtain ⟨a, t, rest, b1, b2, b3, b4, b5⟩ := ih (x8 ++ [x10 ++ [x]]) [] (dg r) (by omega) h0
          refine ⟨a, [x], ([] ++ t) :: rest, by rw [b1]; simp, by simp, ?_, ?_, ?_⟩
          · intro m hm
            rcases List.mem_cons.1 hm with q | q
            · rw [q]; simpa using b2
            · exact b3 m q
          · intro y hy
            have hy' : y ∈ x :: (t ++ rest.flatten) := by simpa using hy
            rcases List.mem_cons.1 hy' with q | q
            · rw [q]; exact ⟨f1, f2⟩
            · exact b4 y q
          · have : wt ([x] ++ (([] ++ t) :: rest).flatten) = relSize x + wt (t ++ rest.flatten) := by simp [wt]
            omega
        · intro h0
          simp at h0
theorem listsM_err (bars : Bool) : ∀ (d : Nat) (x8 : List (List S46)) (x10 : List S46) (l : B), l.length < d → ¬ (listsM bars d x8 x10 l).2.1 = 0 → (listsM bars d x8 x10 l).1 = [] := by
  intro d
  induction d with
  | zero => intro x8 x10 l h; omega
  | succ d ih =>
    intro x8 x10 l hd
    rw [listsM]
    split
    · intro _; rfl
    · intro h; exact absurd rfl h
    · rename_i x c r hR
      obtain ⟨f1, f2, f3, f4⟩ := relM_inr hR
      have hg := dg_le r
      simp only [List.length_cons] at f3
      split
      · exact ih _ _ _ (by omega)
      · split
        · exact ih _ _ _ (by omega)
        · intro _; rfl
theorem readM_ok (bars : Bool) (l : B) (h : (readM bars l).2.1 = 0) : (readM bars l).2.2 = [] ∧ (∀ m ∈ (readM bars l).1, m ≠ []) ∧ (∀ x ∈ (readM bars l).1.flatten, Good x) ∧ wt (readM bars l).1.flatten ≤ l.length := by
  unfold readM at h ⊢
  split at h
  · rename_i hn
    rw [if_pos hn]
    exact ⟨rfl, by simp, by simp, by simp [wt]⟩
  · rename_i hn
    rw [if_neg hn]
    obtain ⟨a, t, rest, b1, b2, b3, b4, b5⟩ := listsM_ok bars _ [] [] (dg l) (Nat.lt_succ_self _) h
    have hg := dg_le l
    have e : (listsM bars ((dg l).length + 1) [] [] (dg l)).1 = t :: rest := by simpa using b1
    rw [e]
    refine ⟨a, ?_, b4, Nat.le_trans b5 hg⟩
    intro m hm
    rcases List.mem_cons.1 hm with q | q
    · rw [q]; exact b2
    · exact b3 m q
theorem readM_err (bars : Bool) (l : B) (h : ¬ (readM bars l).2.1 = 0) : (readM bars l).1 = [] := by
  unfold readM at h ⊢
  split at h
  · exact absurd rfl h
  · rename_i hn
    rw [if_neg hn]
    exact listsM_err bars _ [] [] (dg l) (Nat.lt_succ_self _) h
theorem flat_len {L : List (List S46)} (h : ∀ m ∈ L, m ≠ []) : L.length ≤ L.flatten.length := by
  induction L with
  | nil => exact Nat.le_refl _
  | cons a L ih =>
    have h1 := ih (fun m hm => h m (List.mem_cons_of_mem _ hm))
    have h2 : 1 ≤ a.length := by
      rcases Nat.eq_zero_or_pos a.length with q | q
      · exact absurd (List.eq_nil_of_length_eq_zero q) (h a (List.mem_cons_self ..))
      · exact q
    simp only [List.flatten_cons, List.length_append, List.length_cons]
    omega
theorem readM_bd (bars : Bool) (l : B) : (readM bars l).1.flatten.length ≤ l.length ∧ (readM bars l).1.length ≤ l.length := by
  by_cases h : (readM bars l).2.1 = 0
  · obtain ⟨a, b, c, d⟩ := readM_ok bars l h
    have h1 := wt_len (fun x hx => (c x hx).2)
    have h2 := flat_len b
    omega
  · rw [readM_err bars l h]
    simp
end Go.Proofs.YtmocooihkobdjaaDoor.Model
end
section
set_option linter.unusedVariables false
set_option linter.unusedSimpArgs false
namespace Go.Proofs.YtmocooihkobdjaaDoor.Model
open Go.RowKit Go.Proofs.YtmocooihkobdjaaDoor.T Go.Proofs.YtmocooihkobdjaaDoorW.PrintWords Go.Proofs.YtmocooihkobdjaaDoorW.PrintLast Go.Proofs.YtmocooihkobdjaaDoor.Ver
theorem Read_ev (s : ByteArray) (hb : s.size ≤ 3000000000000) : Ev (fun k => relation_Read.f k s) (placeM s (readM true s.data.toList)) := by
  unfold relation_Read.f
  exact Ev.bind (read_ev s hb true) (Ev.now _)
end Go.Proofs.YtmocooihkobdjaaDoor.Model
end
section
set_option linter.unusedVariables false
set_option linter.unusedSimpArgs false
namespace Go.Proofs.YtmocooihkobdjaaDoor.Model
open Go.RowKit Go.Proofs.YtmocooihkobdjaaDoor.T Go.Proofs.YtmocooihkobdjaaDoorW.PrintWords Go.Proofs.YtmocooihkobdjaaDoorW.PrintLast Go.Proofs.YtmocooihkobdjaaDoor.Ver
theorem readlist_l0 (L : List (List S46)) (er p : Int) (hL : L.length ≤ 140737488351232) : ∀ (d i : Nat), i + d = L.length → ∀ acc : List S46, acc.length + (L.drop i).flatten.length < 3518437208883 → Ev (fun k => relation_ReadList.l0 k er p acc L (L.length : Int) (i : Int)) (acc ++ (L.drop i).flatten, er, p) := by
  intro d
  induction d with
  | zero =>
    intro i hi acc ha
    rw [List.drop_of_length_le (by omega), List.flatten_nil, List.append_nil]
    refine Ev.step (f := fun _ => some (acc, er, p)) (fun k => ?_) (Ev.now _)
    simp only [relation_ReadList.l0]
    rw [if_neg (by omega)]
  | succ d ih =>
    intro i hi acc ha
    have hi' : i < L.length := by omega
    have ew : wrap64 ((i : Int) + 1) = ((i + 1 : Nat) : Int) := by rw [wrap_id (by omega) (by omega)]; omega
    rw [drop_at hi', List.flatten_cons, List.length_append] at ha
    have hn := ih (i + 1) (by omega) (acc ++ L[i]) (by rw [List.length_append]; omega)
    rw [drop_at hi', List.flatten_cons, ← List.append_assoc]
    refine Ev.step (f := _) (fun k => ?_) hn
    simp only [relation_ReadList.l0, ew, rd_at hi', if_pos (show (i : Int) < L.length by omega), if_pos (show (0 : Int) ≤ i by omega), if_pos (show acc.length + L[i].length < 3518437208883 by omega)]
theorem ReadList_ev (s : ByteArray) (hb : s.size ≤ 3000000000000) : Ev (fun k => relation_ReadList.f k s) ((readM false s.data.toList).1.flatten, (placeM s (readM false s.data.toList)).2) := by
  unfold relation_ReadList.f
  refine Ev.bind (read_ev s hb false) ?_
  obtain ⟨b1, b2⟩ := readM_bd false s.data.toList
  have hz : s.data.toList.length = s.size := by simp
  have := readlist_l0 (readM false s.data.toList).1 (placeM s (readM false s.data.toList)).2.1 (placeM s (readM false s.data.toList)).2.2 (by omega) (readM false s.data.toList).1.length 0 (by omega) [] (by simp only [List.length_nil, List.drop_zero]; omega)
  simp only [List.drop_zero, List.nil_append] at this
  exact this
end Go.Proofs.YtmocooihkobdjaaDoor.Model
end
section
set_option linter.unusedVariables false
set_option linter.unusedSimpArgs false
namespace Go.Proofs.YtmocooihkobdjaaDoor.Model
open Go.RowKit Go.Proofs.YtmocooihkobdjaaDoor.T Go.Proofs.YtmocooihkobdjaaDoorW.PrintWords Go.Proofs.YtmocooihkobdjaaDoorW.PrintLast Go.Proofs.YtmocooihkobdjaaDoor.Ver
abbrev Q := List (List S46) × List S46 × List S48
def splitL : B → List B
  | [] => [[]]
  | c :: r => if c = 10 then [] :: splitL r else match splitL r with | [] => [[c]] | x :: xs => (c :: x) :: xs
theorem splitL_ne : ∀ l : B, splitL l ≠ []
  | [] => by simp [splitL]
  | c :: r => by
    unfold splitL
    split
    · simp
    · split <;> simp
theorem splitL_cons (c : UInt8) (r : B) (h : ¬ c = 10) : ∃ x xs, splitL r = x :: xs ∧ splitL (c :: r) = (c :: x) :: xs := by
  cases hs : splitL r with
  | nil => exact absurd hs (splitL_ne r)
  | cons x xs =>
    refine ⟨x, xs, rfl, ?_⟩
    rw [splitL, if_neg h, hs]
theorem splitK_eq : ∀ l : B, Lib.splitK [10] 0 (l.count 10) l = splitL l
  | [] => rfl
  | c :: r => by
    have ih := splitK_eq r
    by_cases hc : c = 10
    · subst hc
      have e : List.count (10 : UInt8) (10 :: r) = r.count 10 + 1 := by simp
      have ei : Lib.index ((10 : UInt8) :: r) [10] = 0 := by rw [Lib.index_one]; rfl
      rw [e, Lib.splitK, ei, if_neg (by decide), splitL, if_pos rfl, ← ih]
      simp
    · have e : List.count (10 : UInt8) (c :: r) = r.count 10 := by rw [List.count_cons_of_ne]; exact hc
      obtain ⟨x, xs, h1, h2⟩ := splitL_cons c r hc
      rw [e, h2]
      have hge := Lib.indexByte_ge r 10
      have ei : Lib.index (c :: r) [10] = if Lib.indexByte r 10 == -1 then -1 else Lib.indexByte r 10 + 1 := by
        rw [Lib.index_one, Lib.indexByte, if_neg (by simpa using hc)]
      cases hn : r.count 10 with
      | zero =>
        rw [hn] at ih
        rw [Lib.splitK] at ih ⊢
        rw [h1] at ih
        injection ih with e1 e2
        rw [e1, ← e2]
      | succ n =>
        rw [hn] at ih
        rw [Lib.splitK, Lib.index_one] at ih
        rw [Lib.splitK, ei]
        by_cases hm : (Lib.indexByte r 10 == -1) = true
        · rw [if_pos hm, h1] at ih
          rw [if_pos hm, if_pos (by decide)]
          injection ih with e1 e2
          rw [e1, ← e2]
        · rw [if_neg hm, h1] at ih
          have hm' : ¬ Lib.indexByte r 10 = -1 := fun q => hm (by rw [q]; rfl)
          rw [if_neg hm, if_neg (by simp; omega)]
          obtain ⟨i, hi⟩ : ∃ i : Nat, Lib.indexByte r 10 = (i : Int) := ⟨(Lib.indexByte r 10).toNat, by omega⟩
          rw [hi] at ih ⊢
          have e3 : ((i : Int) + 1).toNat = i + 1 := by omega
          rw [e3]
          simp only [Int.toNat_natCast, Nat.add_zero, List.take_succ_cons, List.length_cons, List.length_nil, Nat.zero_add, List.drop_succ_cons] at ih ⊢
          injection ih with e1 e2
          rw [e1, e2]
theorem split_map (s : ByteArray) : (Lib.splitB ⟨#[10]⟩ 0 (Lib.countB s ⟨#[10]⟩) s).map (·.data.toList) = splitL s.data.toList := by
  rw [Lib.splitB_data]
  have e : Lib.countB s ⟨#[10]⟩ = s.data.toList.count 10 := Lib.count_one 10 s.data.toList
  rw [e]
  exact splitK_eq s.data.toList
def blk (c : UInt8) : Bool := c == 32 || c == 9
theorem blk_eq (c : UInt8) : ([32, 9] : B).contains c = blk c := by
  simp only [List.contains, List.elem, blk]
  cases (c == 32) <;> cases (c == 9) <;> rfl
def trimM (l : B) : B := Lib.trimS l [32, 9]
def idleM (t : B) : Bool := match t with | [] => true | c :: _ => c == 35
def wordM (t : B) : B := t.takeWhile (fun c => !blk c)
def restM (t : B) : B := t.dropWhile (fun c => !blk c)
def wInstall : B := [105, 110, 115, 116, 97, 108, 108]
def wForbid : B := [102, 111, 114, 98, 105, 100]
def wPrefer : B := [112, 114, 101, 102, 101, 114]
def wAvoid : B := [97, 118, 111, 105, 100]
def wishL (b : Bool) (x : List S46) : List S48 := x.map fun r => ⟨b, r⟩
def stepM (t : B) (q : Q) : Q × Int :=
  if restM t = [] then (q, 240)
  else if wordM t = wInstall then ((q.1 ++ (readM true (restM t)).1, q.2.1, q.2.2), (readM true (restM t)).2.1)
  else if wordM t = wForbid then ((q.1, q.2.1 ++ (readM false (restM t)).1.flatten, q.2.2), (readM false (restM t)).2.1)
  else if wordM t = wPrefer then ((q.1, q.2.1, q.2.2 ++ wishL false (readM false (restM t)).1.flatten), (readM false (restM t)).2.1)
  else if wordM t = wAvoid then ((q.1, q.2.1, q.2.2 ++ wishL true (readM false (restM t)).1.flatten), (readM false (restM t)).2.1)
  else (q, 240)
def linesM : List B → Nat → Q → List (List S46) × List S46 × List S48 × Int × Int
  | [], _, q => (q.1, q.2.1, q.2.2, 0, 0)
  | l :: ls, i, q => if idleM (trimM l) = true then linesM ls (i + 1) q else if (stepM (trimM l) q).2 = 0 then linesM ls (i + 1) (stepM (trimM l) q).1 else ([], [], [], (stepM (trimM l) q).2, ((i + 1 : Nat) : Int))
def reqM (l : B) : List (List S46) × List S46 × List S48 × Int × Int := linesM (splitL l) 0 ([], [], [])
theorem dw_le (p : UInt8 → Bool) (l : B) : (l.dropWhile p).length ≤ l.length := (List.dropWhile_sublist _).length_le
theorem trim_le (l : B) : (trimM l).length ≤ l.length := by
  unfold trimM Lib.trimS Lib.trimLeftS Lib.trimRightS
  have h1 := dw_le ([32, 9].contains ·) (l.reverse.dropWhile ([32, 9].contains ·)).reverse
  have h2 := dw_le ([32, 9].contains ·) l.reverse
  rw [List.length_reverse] at h1 h2
  omega
theorem any_blk : ∀ t : B, Lib.indexAny t [32, 9] = if restM t = [] then -1 else ((wordM t).length : Int)
  | [] => rfl
  | c :: r => by
    have ih := any_blk r
    rw [Lib.indexAny, blk_eq, ih]
    unfold restM wordM
    cases hb : blk c with
    | true => simp [hb]
    | false =>
      have e1 : List.dropWhile (fun c => !blk c) (c :: r) = List.dropWhile (fun c => !blk c) r := by rw [List.dropWhile_cons_of_pos]; simp [hb]
      have e2 : List.takeWhile (fun c => !blk c) (c :: r) = c :: List.takeWhile (fun c => !blk c) r := by rw [List.takeWhile_cons_of_pos]; simp [hb]
      rw [e1, e2, if_neg (by decide)]
      by_cases h : List.dropWhile (fun c => !blk c) r = []
      · rw [if_pos h, if_pos h]
        rfl
      · rw [if_neg h, if_neg h, if_neg (by rw [beq_iff_eq]; omega), List.length_cons]
        omega
theorem wd_rest (t : B) : wordM t ++ restM t = t := List.takeWhile_append_dropWhile
theorem rest_le (t : B) : (restM t).length ≤ t.length := dw_le _ _
def szQ (q : Q) : Nat := q.1.length + q.2.1.length + q.2.2.length
theorem step_sz (t : B) (q : Q) : szQ (stepM t q).1 ≤ szQ q + t.length := by
  have hr := rest_le t
  obtain ⟨a1, a2⟩ := readM_bd true (restM t)
  obtain ⟨b1, b2⟩ := readM_bd false (restM t)
  unfold stepM szQ
  split
  · simp
  split
  · simp only [List.length_append]; omega
  split
  · simp only [List.length_append]; omega
  split
  · simp only [List.length_append, wishL, List.length_map]; omega
  split
  · simp only [List.length_append, wishL, List.length_map]; omega
  · simp
theorem pstep_ev (t : ByteArray) (q : Q) (hb : t.size ≤ 1000000000) (hq : szQ q ≤ 1000000000) : Ev (fun k => request_Read.step k t q) (stepM t.data.toList q) := by
  obtain ⟨l, rfl⟩ : ∃ l, t = ofL l := ⟨t.data.toList, (ofL_toL t).symm⟩
  rw [ofL_size] at hb
  have hla := any_blk l
  have hsz : (ofL l).size = l.length := ofL_size l
  have hwr := congrArg List.length (wd_rest l)
  rw [List.length_append] at hwr
  unfold request_Read.step
  simp only [toL_ofL, hla]
  unfold stepM
  by_cases h0 : restM l = []
  · simp only [if_pos h0]
    exact Ev.now _
  · simp only [if_neg h0]
    have e1 : (ofL l).extract 0 ((wordM l).length : Int).toNat = ofL (wordM l) := by
      have := ext_at (ofL l) 0 (wordM l).length
      simp only [at_zero, toL_ofL, Nat.sub_zero, Int.toNat_natCast, Int.toNat_zero, Int.natCast_zero] at this ⊢
      rw [this]
      congr 1
      exact take_tw _ _
    have e2 : (ofL l).extract ((wordM l).length : Int).toNat (ofL l).size = ofL (restM l) := by
      have := ext_at (ofL l) (wordM l).length (ofL l).size
      simp only [Int.toNat_natCast] at this ⊢
      rw [this]
      congr 1
      have e3 : at_ (ofL l) (wordM l).length = restM l := by
        unfold at_
        rw [toL_ofL]
        have h9 := List.drop_left (l₁ := wordM l) (l₂ := restM l)
        rw [wd_rest] at h9
        exact h9
      rw [e3, hsz]
      exact List.take_of_length_le (by omega)
    simp only [e1, e2, if_neg (show ¬ ((wordM l).length : Int) < 0 by omega)]
    have eqv : ∀ m : B, (ofL (wordM l) = ⟨m.toArray⟩) ↔ wordM l = m := by
      intro m
      constructor
      · intro h
        have := congrArg (fun x => x.data.toList) h
        simpa [ofL] using this
      · intro h; rw [h]; rfl
    have i1 := eqv wInstall
    have i2 := eqv wForbid
    have i3 := eqv wPrefer
    have i4 := eqv wAvoid
    have hrl : (ofL (restM l)).size ≤ 3000000000000 := by rw [ofL_size]; omega
    have hR := Read_ev (ofL (restM l)) hrl
    have hF := ReadList_ev (ofL (restM l)) hrl
    rw [toL_ofL] at hR hF
    obtain ⟨p1, hR⟩ : ∃ p1, Ev (fun k => relation_Read.f k (ofL (restM l))) ((readM true (restM l)).1, (readM true (restM l)).2.1, p1) := ⟨_, hR⟩
    obtain ⟨p2, hF⟩ : ∃ p2, Ev (fun k => relation_ReadList.f k (ofL (restM l))) ((readM false (restM l)).1.flatten, (readM false (restM l)).2.1, p2) := ⟨_, hF⟩
    obtain ⟨a1, a2⟩ := readM_bd true (restM l)
    obtain ⟨b1, b2⟩ := readM_bd false (restM l)
    unfold szQ at hq
    have er1 := readM_err true (restM l)
    have er2 := readM_err false (restM l)
    have c1 : (ofL (wordM l) = ⟨#[105, 110, 115, 116, 97, 108, 108]⟩) ↔ wordM l = wInstall := i1
    have c2 : (ofL (wordM l) = ⟨#[102, 111, 114, 98, 105, 100]⟩) ↔ wordM l = wForbid := i2
    have c3 : (ofL (wordM l) = ⟨#[112, 114, 101, 102, 101, 114]⟩) ↔ wordM l = wPrefer := i3
    have c4 : (ofL (wordM l) = ⟨#[97, 118, 111, 105, 100]⟩) ↔ wordM l = wAvoid := i4
    simp only [c1, c2, c3, c4]
    by_cases k1 : wordM l = wInstall
    · simp only [if_pos k1]
      refine Ev.bind hR ?_
      by_cases h : (readM true (restM l)).2.1 = 0
      · simp only [if_pos h, h]
        simp only [if_pos (show (q.1.length + (readM true (restM l)).1.length) * 24 ≤ 140737488355328 by omega)]
        exact Ev.now _
      · simp only [if_neg h]
        rw [er1 h, List.append_nil]
        exact Ev.now _
    simp only [if_neg k1]
    by_cases k2 : wordM l = wForbid
    · simp only [if_pos k2]
      refine Ev.bind hF ?_
      by_cases h : (readM false (restM l)).2.1 = 0
      · simp only [if_pos h, h]
        simp only [if_pos (show (q.2.1.length + (readM false (restM l)).1.flatten.length) * 40 ≤ 140737488355328 by omega)]
        exact Ev.now _
      · simp only [if_neg h]
        rw [er2 h, List.flatten_nil, List.append_nil]
        exact Ev.now _
    simp only [if_neg k2]
    by_cases k3 : wordM l = wPrefer
    · simp only [if_pos k3]
      refine Ev.bind hF ?_
      by_cases h : (readM false (restM l)).2.1 = 0
      · simp only [if_pos h, h]
        simp only [if_pos (show (q.2.2.length + (readM false (restM l)).1.flatten.length) * 48 ≤ 140737488355328 by omega)]
        exact Ev.now _
      · simp only [if_neg h]
        rw [er2 h, List.flatten_nil]
        unfold wishL
        rw [List.map_nil, List.append_nil]
        exact Ev.now _
    simp only [if_neg k3]
    by_cases k4 : wordM l = wAvoid
    · simp only [if_pos k4]
      refine Ev.bind hF ?_
      by_cases h : (readM false (restM l)).2.1 = 0
      · simp only [if_pos h, h]
        simp only [if_pos (show (q.2.2.length + (readM false (restM l)).1.flatten.length) * 48 ≤ 140737488355328 by omega)]
        exact Ev.now _
      · simp only [if_neg h]
        rw [er2 h, List.flatten_nil]
        unfold wishL
        rw [List.map_nil, List.append_nil]
        exact Ev.now _
    simp only [if_neg k4]
    exact Ev.now _
theorem idle_eq (t : ByteArray) : request_Read.idle t = idleM t.data.toList := by
  unfold request_Read.idle idleM
  cases t.data.toList <;> rfl
theorem ptrim (l : ByteArray) : request_Read.trim l = ofL (trimM l.data.toList) := rfl
theorem plines_ev : ∀ (ls : List ByteArray) (i : Nat) (q : Q), szQ q + ((ls.map (·.size)).sum) ≤ 1000000000 → Ev (fun k => request_Read.lines k ls i q) (linesM (ls.map (·.data.toList)) i q)
  | [], i, q, _ => Ev.now _
  | l :: ls, i, q, h => by
    rw [List.map_cons, List.sum_cons] at h
    have ht := trim_le l.data.toList
    have hl : l.data.toList.length = l.size := by simp
    have hz : (request_Read.trim l).size = (trimM l.data.toList).length := by rw [ptrim, ofL_size]
    simp only [request_Read.lines, List.map_cons, linesM]
    simp only [if_pos (show l.size < 4294967281 ∧ (request_Read.trim l).size < 4294967281 by rw [hz]; omega)]
    have hid : request_Read.idle (request_Read.trim l) = idleM (trimM l.data.toList) := by rw [idle_eq, ptrim, toL_ofL]
    rw [hid]
    by_cases hi : idleM (trimM l.data.toList) = true
    · simp only [if_pos hi]
      exact plines_ev ls (i + 1) q (by omega)
    · simp only [if_neg hi]
      have hs := pstep_ev (request_Read.trim l) q (by omega) (by omega)
      rw [ptrim, toL_ofL] at hs
      have hsz := step_sz (trimM l.data.toList) q
      refine Ev.bind hs ?_
      by_cases he : (stepM (trimM l.data.toList) q).2 = 0
      · simp only [if_pos he]
        exact plines_ev ls (i + 1) _ (by omega)
      · simp only [if_neg he]
        exact Ev.now _
theorem split_sum : ∀ l : B, ((splitL l).map List.length).sum ≤ l.length
  | [] => by simp [splitL]
  | c :: r => by
    have ih := split_sum r
    by_cases hc : c = 10
    · rw [splitL, if_pos hc]
      simp only [List.map_cons, List.length_nil, List.sum_cons, List.length_cons]
      omega
    · obtain ⟨x, xs, h1, h2⟩ := splitL_cons c r hc
      rw [h1] at ih
      rw [h2]
      simp only [List.map_cons, List.sum_cons, List.length_cons] at ih ⊢
      omega
theorem Req_ev (s : ByteArray) (hb : s.size ≤ 1000000000) : Ev (fun k => request_Read.f k s) (reqM s.data.toList) := by
  unfold request_Read.f reqM
  simp only [if_pos (show s.size < 4294967281 by omega)]
  rw [← split_map s]
  refine plines_ev _ 0 ([], [], []) ?_
  have h1 := split_sum s.data.toList
  rw [← split_map s, List.map_map] at h1
  have h2 : s.data.toList.length = s.size := by simp
  have h3 : (List.length ∘ fun x : ByteArray => x.data.toList) = (·.size) := by
    funext x
    show x.data.toList.length = x.size
    simp
  rw [h3] at h1
  simp only [szQ, List.length_nil]
  omega
end Go.Proofs.YtmocooihkobdjaaDoor.Model
end
section
set_option linter.unusedVariables false
set_option linter.unusedSimpArgs false
namespace Go.Proofs.YtmocooihkobdjaaDoor.Model
open Go.RowKit Go.Proofs.YtmocooihkobdjaaDoor.T Go.Proofs.YtmocooihkobdjaaDoorW.PrintWords Go.Proofs.YtmocooihkobdjaaDoorW.PrintLast Go.Proofs.YtmocooihkobdjaaDoor.Ver
def mQ (L : List (List S46)) (F : List S46) (W : List S48) : Nat := L.length + L.flatten.length + F.length + W.length
theorem step_m (t : B) (q : Q) : mQ (stepM t q).1.1 (stepM t q).1.2.1 (stepM t q).1.2.2 ≤ mQ q.1 q.2.1 q.2.2 + 2 * t.length := by
  have hr := rest_le t
  obtain ⟨a1, a2⟩ := readM_bd true (restM t)
  obtain ⟨b1, b2⟩ := readM_bd false (restM t)
  unfold stepM mQ
  split
  · simp
  split
  · simp only [List.length_append, List.flatten_append]; omega
  split
  · simp only [List.length_append]; omega
  split
  · simp only [List.length_append, wishL, List.length_map]; omega
  split
  · simp only [List.length_append, wishL, List.length_map]; omega
  · simp
theorem lines_m : ∀ (ls : List B) (i : Nat) (q : Q), mQ (linesM ls i q).1 (linesM ls i q).2.1 (linesM ls i q).2.2.1 ≤ mQ q.1 q.2.1 q.2.2 + 2 * (ls.map List.length).sum
  | [], i, q => by simp [linesM]
  | l :: ls, i, q => by
    rw [List.map_cons, List.sum_cons]
    have ht := trim_le l
    unfold linesM
    split
    · have := lines_m ls (i + 1) q
      omega
    · split
      · have h1 := lines_m ls (i + 1) (stepM (trimM l) q).1
        have h2 := step_m (trimM l) q
        omega
      · simp [mQ]
theorem reqM_m (l : B) : mQ (reqM l).1 (reqM l).2.1 (reqM l).2.2.1 ≤ 2 * l.length := by
  have h1 := lines_m (splitL l) 0 ([], [], [])
  have h2 := split_sum l
  unfold reqM
  simp only [mQ, List.length_nil, List.flatten_nil] at h1 ⊢
  omega
theorem mem_flat {m : List S46} : ∀ {L : List (List S46)}, m ∈ L → m.length ≤ L.flatten.length
  | x :: xs, h => by
    rw [List.flatten_cons, List.length_append]
    rcases List.mem_cons.1 h with rfl | h
    · omega
    · have := mem_flat h
      omega
end Go.Proofs.YtmocooihkobdjaaDoor.Model
end
section
namespace Go.Proofs.YtmocooihkobdjaaDoor.Model
open Go.RowKit Go.Proofs.YtmocooihkobdjaaDoor.T
def relW (x : S46) : Nat := x.f0.size + x.f2.size + 1
def rowW (l : List S46) : Nat := (l.map relW).sum + 1
def rowsW (L : List (List S46)) : Nat := (L.map rowW).sum + 1
theorem relW_mem {l : List S46} {x : S46} (h : x ∈ l) : relW x ≤ (l.map relW).sum := by
  induction l with
  | nil => cases h
  | cons a l ih =>
    rw [List.map_cons, List.sum_cons]
    rcases List.mem_cons.1 h with q | q
    · rw [q]; omega
    · have := ih q; omega
theorem rowW_mem {L : List (List S46)} {m : List S46} (h : m ∈ L) : rowW m ≤ (L.map rowW).sum := by
  induction L with
  | nil => cases h
  | cons a l ih =>
    rw [List.map_cons, List.sum_cons]
    rcases List.mem_cons.1 h with q | q
    · rw [q]; omega
    · have := ih q; omega
theorem row_length (l : List S46) : l.length ≤ (l.map relW).sum := by
  induction l with
  | nil => simp
  | cons a l ih =>
    rw [List.map_cons, List.sum_cons, List.length_cons]
    unfold relW at *
    omega
theorem rows_length (L : List (List S46)) : L.length ≤ (L.map rowW).sum := by
  induction L with
  | nil => simp
  | cons a l ih =>
    rw [List.map_cons, List.sum_cons, List.length_cons]
    unfold rowW at *
    omega
theorem flat_weigh (L : List (List S46)) : (L.flatten.map relW).sum + L.length ≤ (L.map rowW).sum := by
  induction L with
  | nil => simp
  | cons a l ih =>
    rw [List.map_cons, List.sum_cons, List.flatten_cons, List.map_append, List.sum_append, List.length_cons]
    have : rowW a = (a.map relW).sum + 1 := rfl
    omega
end Go.Proofs.YtmocooihkobdjaaDoor.Model
end
section
set_option linter.unusedVariables false
set_option linter.unusedSimpArgs false
namespace Go.Proofs.YtmocooihkobdjaaDoor.Model
open Go.RowKit Go.Proofs.YtmocooihkobdjaaDoor.T Go.Proofs.YtmocooihkobdjaaDoorW.PrintWords Go.Proofs.YtmocooihkobdjaaDoorW.PrintLast Go.Proofs.YtmocooihkobdjaaDoor.Ver
def wrels (W : List S48) : List S46 := W.map (fun x => x.f1)
def reqW (L : List (List S46)) (F : List S46) (W : List S48) : Nat := rowsW L + (rowW F + rowW (wrels W))
def reqOk (L : List (List S46)) (F : List S46) (W : List S48) : Bool := okL L && ((wrels W).all formM && F.all formM)
theorem req_parts {L : List (List S46)} {F : List S46} {W : List S48} {n : Nat} (h : reqW L F W ≤ n) : (L.map rowW).sum + 1 ≤ n ∧ (F.map relW).sum + 1 ≤ n ∧ ((wrels W).map relW).sum + 1 ≤ n ∧ L.length + L.flatten.length + F.length + W.length ≤ n ∧ (L.flatten.map relW).sum ≤ n := by
  have e1 : rowsW L = (L.map rowW).sum + 1 := rfl
  have e2 : rowW F = (F.map relW).sum + 1 := rfl
  have e3 : rowW (wrels W) = ((wrels W).map relW).sum + 1 := rfl
  have l1 := flat_weigh L
  have l2 := row_length F
  have l3 := row_length (wrels W)
  have l4 := row_length L.flatten
  have l5 : (wrels W).length = W.length := by unfold wrels; rw [List.length_map]
  unfold reqW at h
  omega
theorem wt_at {l : List S48} {i : Nat} (h : i < l.length) : rd_T48 l (i : Int) = l[i] := by
  unfold rd_T48
  rw [Int.toNat_natCast, List.getD_eq_getElem?_getD, List.getElem?_eq_getElem h, Option.getD_some]
end Go.Proofs.YtmocooihkobdjaaDoor.Model
end
section
set_option linter.unusedVariables false
set_option linter.unusedSimpArgs false
namespace Go.Proofs.YtmocooihkobdjaaDoor.Model
open Go.RowKit Go.Proofs.YtmocooihkobdjaaDoor.T Go.Proofs.YtmocooihkobdjaaDoorW.PrintWords Go.Proofs.YtmocooihkobdjaaDoorW.PrintLast Go.Proofs.YtmocooihkobdjaaDoor.Ver
theorem bytes_app (a b : ByteArray) : (a ++ b).data.toList = a.data.toList ++ b.data.toList := by simp
theorem split_two : ∀ s t : B, splitL (s ++ 10 :: t) = splitL s ++ splitL t
  | [], t => by simp [splitL]
  | c :: r, t => by
    have ih := split_two r t
    by_cases hc : c = 10
    · rw [List.cons_append, splitL, if_pos hc, splitL, if_pos hc, ih]
      rfl
    · obtain ⟨x, xs, h1, h2⟩ := splitL_cons c r hc
      rw [h1] at ih
      rw [h2, List.cons_append, splitL, if_neg hc, ih]
      rfl
theorem split_count : ∀ s : B, (splitL s).length = s.count 10 + 1
  | [] => rfl
  | c :: r => by
    have ih := split_count r
    by_cases hc : c = 10
    · subst hc
      rw [splitL, if_pos rfl, List.length_cons, ih]
      simp
    · obtain ⟨x, xs, h1, h2⟩ := splitL_cons c r hc
      rw [h1] at ih
      rw [h2, List.count_cons_of_ne hc, ← ih]
      rfl
theorem lines_app : ∀ (a b : List B) (i : Nat) (q : Q), linesM (a ++ b) i q = if (linesM a i q).2.2.2.1 = 0 then linesM b (i + a.length) ((linesM a i q).1, (linesM a i q).2.1, (linesM a i q).2.2.1) else linesM a i q
  | [], b, i, q => by simp [linesM]
  | l :: a, b, i, q => by
    rw [List.cons_append, linesM, linesM]
    have e : i + (l :: a).length = (i + 1) + a.length := by rw [List.length_cons]; omega
    rw [e]
    split
    · exact lines_app a b (i + 1) q
    · split
      · exact lines_app a b (i + 1) _
      · rfl
def appQ (p q : Q) : Q := (p.1 ++ q.1, p.2.1 ++ q.2.1, p.2.2 ++ q.2.2)
theorem step_app (t : B) (p q : Q) : stepM t (appQ p q) = (appQ p (stepM t q).1, (stepM t q).2) := by
  unfold stepM appQ
  split
  · rfl
  split
  · simp only [List.append_assoc]
  split
  · simp only [List.append_assoc]
  split
  · simp only [List.append_assoc]
  split
  · simp only [List.append_assoc]
  · rfl
theorem lines_shift : ∀ (b : List B) (i j : Nat) (p q : Q), linesM b (i + j) (appQ p q) = if (linesM b j q).2.2.2.1 = 0 then ((linesM b j q).1 |> (p.1 ++ ·), p.2.1 ++ (linesM b j q).2.1, p.2.2 ++ (linesM b j q).2.2.1, 0, 0) else ([], [], [], (linesM b j q).2.2.2.1, (linesM b j q).2.2.2.2 + (i : Int))
  | [], i, j, p, q => by simp [linesM, appQ]
  | l :: b, i, j, p, q => by
    rw [linesM, linesM, step_app]
    have e : i + j + 1 = i + (j + 1) := by omega
    rw [e]
    split
    · exact lines_shift b i (j + 1) p q
    · simp only
      split
      · exact lines_shift b i (j + 1) p _
      · rename_i h
        simp only [if_neg h]
        congr 4
        omega
theorem req_two (s t : B) : reqM (s ++ 10 :: t) = if (reqM s).2.2.2.1 = 0 then (if (reqM t).2.2.2.1 = 0 then ((reqM s).1 ++ (reqM t).1, (reqM s).2.1 ++ (reqM t).2.1, (reqM s).2.2.1 ++ (reqM t).2.2.1, 0, 0) else ([], [], [], (reqM t).2.2.2.1, (reqM t).2.2.2.2 + ((s.count 10 + 1 : Nat) : Int))) else reqM s := by
  unfold reqM
  rw [split_two, lines_app]
  split
  · have h := lines_shift (splitL t) (splitL s).length 0 ((linesM (splitL s) 0 ([], [], [])).1, (linesM (splitL s) 0 ([], [], [])).2.1, (linesM (splitL s) 0 ([], [], [])).2.2.1) ([], [], [])
    simp only [appQ, List.append_nil, Nat.add_zero, Nat.zero_add] at h ⊢
    rw [h, split_count]
  · rfl
theorem all_good {l : List S46} (h : ∀ x ∈ l, Good x) : l.all formM = true := List.all_eq_true.2 (fun x hx => (h x hx).1)
theorem okL_read {l : B} (h : (readM true l).2.1 = 0) : okL (readM true l).1 = true := by
  obtain ⟨_, h1, h2, _⟩ := readM_ok true l h
  refine List.all_eq_true.2 (fun m hm => ?_)
  have e1 : (!m.isEmpty) = true := by simpa using h1 m hm
  have e2 : m.all formM = true := all_good (fun x hx => h2 x (List.mem_flatten.2 ⟨m, hm, hx⟩))
  rw [e1, e2]
  rfl
theorem okL_app (a b : List (List S46)) : okL (a ++ b) = (okL a && okL b) := by unfold okL; rw [List.all_append]
theorem wrels_app (a b : List S48) : wrels (a ++ b) = wrels a ++ wrels b := by unfold wrels; rw [List.map_append]
theorem wrels_wish (b : Bool) (x : List S46) : wrels (wishL b x) = x := by
  unfold wrels wishL
  rw [List.map_map]
  exact List.map_id x
theorem step_ok (t : B) (q : Q) (hq : reqOk q.1 q.2.1 q.2.2 = true) (h : (stepM t q).2 = 0) : reqOk (stepM t q).1.1 (stepM t q).1.2.1 (stepM t q).1.2.2 = true := by
  unfold reqOk at hq
  rw [Bool.and_eq_true, Bool.and_eq_true] at hq
  obtain ⟨q1, q2, q3⟩ := hq
  unfold stepM at h ⊢
  split
  · simp only [reqOk, q1, q2, q3]; rfl
  rename_i n0
  rw [if_neg n0] at h
  split
  · rename_i k1
    rw [if_pos k1] at h
    simp only [reqOk, okL_app, q1, q2, q3, okL_read h]
    rfl
  rename_i n1
  rw [if_neg n1] at h
  split
  · rename_i k2
    rw [if_pos k2] at h
    have g := all_good (readM_ok false (restM t) h).2.2.1
    simp only [reqOk, List.all_append, q1, q2, q3, g]
    rfl
  rename_i n2
  rw [if_neg n2] at h
  split
  · rename_i k3
    rw [if_pos k3] at h
    have g := all_good (readM_ok false (restM t) h).2.2.1
    simp only [reqOk, wrels_app, wrels_wish, List.all_append, q1, q2, q3, g]
    rfl
  rename_i n3
  rw [if_neg n3] at h
  split
  · rename_i k4
    rw [if_pos k4] at h
    have g := all_good (readM_ok false (restM t) h).2.2.1
    simp only [reqOk, wrels_app, wrels_wish, List.all_append, q1, q2, q3, g]
    rfl
  · rename_i n4
    rw [if_neg n4] at h
    exact absurd h (show ¬ (240 : Int) = 0 by decide)
theorem lines_ok : ∀ (b : List B) (j : Nat) (q : Q), reqOk q.1 q.2.1 q.2.2 = true → reqOk (linesM b j q).1 (linesM b j q).2.1 (linesM b j q).2.2.1 = true
  | [], j, q, h => h
  | l :: b, j, q, h => by
    rw [linesM]
    split
    · exact lines_ok b _ q h
    · split
      · rename_i h2
        exact lines_ok b _ _ (step_ok _ q h h2)
      · rfl
theorem reqM_ok (l : B) : reqOk (reqM l).1 (reqM l).2.1 (reqM l).2.2.1 = true := lines_ok _ 0 ([], [], []) rfl
theorem wt_rel (l : List S46) : (l.map relW).sum = wt l + l.length := by
  induction l with
  | nil => rfl
  | cons x l ih =>
    rw [List.map_cons, List.sum_cons, ih, List.length_cons]
    have e : wt (x :: l) = relSize x + wt l := by simp [wt]
    rw [e]
    unfold relW relSize
    omega
theorem wt_rows (L : List (List S46)) : (L.map rowW).sum = (L.flatten.map relW).sum + L.length := by
  induction L with
  | nil => rfl
  | cons m L ih =>
    rw [List.map_cons, List.sum_cons, ih, List.flatten_cons, List.map_append, List.sum_append, List.length_cons]
    unfold rowW
    omega
def wQ (q : Q) : Nat := (q.1.map rowW).sum + (q.2.1.map relW).sum + ((wrels q.2.2).map relW).sum
theorem read_wt (bars : Bool) (l : B) : ((readM bars l).1.map rowW).sum ≤ 3 * l.length ∧ ((readM bars l).1.flatten.map relW).sum ≤ 2 * l.length := by
  by_cases h : (readM bars l).2.1 = 0
  · obtain ⟨_, h1, h2, h3⟩ := readM_ok bars l h
    have a1 := wt_len (fun x hx => (h2 x hx).2)
    have a2 := flat_len h1
    rw [wt_rows, wt_rel]
    omega
  · rw [readM_err bars l h]
    simp
theorem step_w (t : B) (q : Q) : wQ (stepM t q).1 ≤ wQ q + 3 * t.length := by
  have hr := rest_le t
  obtain ⟨a1, a2⟩ := read_wt true (restM t)
  obtain ⟨b1, b2⟩ := read_wt false (restM t)
  unfold stepM wQ
  split
  · simp
  split
  · simp only [List.map_append, List.sum_append]; omega
  split
  · simp only [List.map_append, List.sum_append]; omega
  split
  · simp only [wrels_app, wrels_wish, List.map_append, List.sum_append]; omega
  split
  · simp only [wrels_app, wrels_wish, List.map_append, List.sum_append]; omega
  · simp
theorem lines_w : ∀ (ls : List B) (i : Nat) (q : Q), wQ ((linesM ls i q).1, (linesM ls i q).2.1, (linesM ls i q).2.2.1) ≤ wQ q + 3 * (ls.map List.length).sum
  | [], i, q => by simp [linesM]
  | l :: ls, i, q => by
    rw [List.map_cons, List.sum_cons]
    have ht := trim_le l
    unfold linesM
    split
    · have := lines_w ls (i + 1) q
      omega
    · split
      · have h1 := lines_w ls (i + 1) (stepM (trimM l) q).1
        have h2 := step_w (trimM l) q
        omega
      · simp [wQ, wrels]
theorem reqM_w (l : B) : reqW (reqM l).1 (reqM l).2.1 (reqM l).2.2.1 ≤ 3 * l.length + 3 := by
  have h1 := lines_w (splitL l) 0 ([], [], [])
  have h2 := split_sum l
  have e : wQ (([], [], []) : Q) = 0 := rfl
  rw [e] at h1
  have e2 : reqW (reqM l).1 (reqM l).2.1 (reqM l).2.2.1 = wQ ((reqM l).1, (reqM l).2.1, (reqM l).2.2.1) + 3 := by
    have f1 : rowW (reqM l).2.1 = ((reqM l).2.1.map relW).sum + 1 := rfl
    have f2 : rowW (wrels (reqM l).2.2.1) = ((wrels (reqM l).2.2.1).map relW).sum + 1 := rfl
    simp only [reqW, wQ, rowsW, f1, f2]
    omega
  rw [e2]
  unfold reqM
  omega
theorem awake_val : reqM [105, 110, 115, 116, 97, 108, 108, 32, 97, 97, 32, 124, 32, 98, 98, 10, 35, 32, 120, 10, 97, 118, 111, 105, 100, 32, 99, 99, 10] = ([[⟨ofL [97, 97], 0, ⟨#[]⟩⟩, ⟨ofL [98, 98], 0, ⟨#[]⟩⟩]], [], [⟨true, ⟨ofL [99, 99], 0, ⟨#[]⟩⟩⟩], 0, 0) := by kernel_rfl
theorem awake_ev : Ev (fun k => depotlaw24_awake.f k) true := by
  have h3 := Req_ev ⟨#[105, 110, 115, 116, 97, 108, 108, 32, 97, 97, 32, 124, 32, 98, 98, 10, 35, 32, 120, 10, 97, 118, 111, 105, 100, 32, 99, 99, 10]⟩ (by decide)
  rw [show (⟨#[105, 110, 115, 116, 97, 108, 108, 32, 97, 97, 32, 124, 32, 98, 98, 10, 35, 32, 120, 10, 97, 118, 111, 105, 100, 32, 99, 99, 10]⟩ : ByteArray).data.toList = [105, 110, 115, 116, 97, 108, 108, 32, 97, 97, 32, 124, 32, 98, 98, 10, 35, 32, 120, 10, 97, 118, 111, 105, 100, 32, 99, 99, 10] from rfl, awake_val] at h3
  unfold depotlaw24_awake.f
  refine Ev.bind h3 ?_
  refine Ev.congr (fun k => ?_) (Ev.now true)
  have e1 : (ofL [98, 98]).toList = [98, 98] := ofL_list _
  have e2 : (ofL [99, 99]).toList = [99, 99] := ofL_list _
  simp [rd_L3, rd_T46, rd_T48, e1, e2]
end Go.Proofs.YtmocooihkobdjaaDoor.Model
end
section
set_option linter.unusedVariables false
set_option linter.unusedSimpArgs false
namespace Go.Proofs.YtmocooihkobdjaaDoor.Model
open Go.RowKit Go.Proofs.YtmocooihkobdjaaDoor.T Go.Proofs.YtmocooihkobdjaaDoorW.PrintWords Go.Proofs.YtmocooihkobdjaaDoorW.PrintLast Go.Proofs.YtmocooihkobdjaaDoor.Ver
theorem form_ev (x : S46) (h : relW x ≤ 140737488351232) : Ev (fun k => relation_Formed.f k x.f0 x.f1 x.f2) (formM x) := by
  unfold relW at h
  have hn := name_ev x.f0 (by omega)
  have hl := plegal_ev x.f2 (by omega)
  unfold relation_Formed.f formM
  refine Ev.bind hn ?_
  cases nameM x.f0.data.toList with
  | false =>
    simp only [Bool.false_eq_true, if_false, Bool.false_and]
    exact Ev.now _
  | true =>
    simp only [if_true, Bool.true_and]
    by_cases h0 : x.f1 = 0
    · simp only [if_pos h0]
      exact Ev.now _
    · simp only [if_neg h0, relation_word.f, Option.bind_some]
      by_cases hw : (wordOf x.f1).toList = []
      · simp only [if_pos hw]
        exact Ev.now _
      · simp only [if_neg hw]
        exact Ev.bind hl (Ev.now _)
end Go.Proofs.YtmocooihkobdjaaDoor.Model
end
section
set_option linter.unusedVariables false
set_option linter.unusedSimpArgs false
namespace Go.Proofs.YtmocooihkobdjaaDoor.Model
open Go.RowKit Go.Proofs.YtmocooihkobdjaaDoor.T Go.Proofs.YtmocooihkobdjaaDoorW.PrintWords Go.Proofs.YtmocooihkobdjaaDoorW.PrintLast Go.Proofs.YtmocooihkobdjaaDoor.Ver
theorem contains_ev : ∀ (l : List S46), (∀ x ∈ l, relW x ≤ 140737488351232) → Ev (fun k => api_Rel_24.f k l) (!l.all formM) := by
  intro l
  unfold api_Rel_24.f
  induction l with
  | nil => intro _; exact Ev.now _
  | cons x l ih =>
    intro h
    have hx := form_ev x (h x (List.mem_cons_self ..))
    have hl := ih (fun y hy => h y (List.mem_cons_of_mem _ hy))
    unfold api_Rel_24.l0
    refine Ev.bind hx ?_
    rw [List.all_cons]
    cases formM x with
    | true => simp only [if_true, Bool.true_and]; exact hl
    | false => simp only [Bool.false_eq_true, if_false, Bool.false_and, Bool.not_false]; exact Ev.now _
theorem reqform_l1 (L : List (List S46)) (hL : (L.map rowW).sum ≤ 8388608) : ∀ (d i : Nat), i + d = L.length → ∀ l : List S46, l.length + (L.drop i).flatten.length ≤ 100000000 → (∀ x ∈ l, relW x ≤ 140737488351232) →
    Ev (fun k => request_Formed.l1 k l L (L.length : Int) (i : Int)) (full (L.drop i) && (l ++ (L.drop i).flatten).all formM) := by
  have hLl := rows_length L
  have hfw := flat_weigh L
  intro d
  induction d with
  | zero =>
    intro i hi l hl hx
    obtain rfl : i = L.length := by omega
    rw [List.drop_length, List.flatten_nil, List.append_nil]
    refine Ev.step (f := fun k => (api_Rel_24.f k l).bind fun t => some (!t)) (fun k => ?_) (Ev.bind (contains_ev l hx) ?_)
    · simp only [request_Formed.l1]
      rw [if_neg (by omega)]
    · simp only [Bool.not_not, full, List.all_nil, Bool.true_and]
      exact Ev.now _
  | succ d ih =>
    intro i hi l hl hx
    have hi' : i < L.length := by omega
    have ew : wrap64 ((i : Int) + 1) = ((i + 1 : Nat) : Int) := by rw [wrap_id (by omega) (by omega)]; omega
    rw [drop_at hi', List.flatten_cons] at hl ⊢
    rw [List.length_append] at hl
    by_cases h0 : L[i] = []
    · refine Ev.step (f := fun _ => some false) (fun k => ?_) ?_
      · simp only [request_Formed.l1, rd_at hi', h0, List.length_nil]
        rw [if_pos (by omega), if_pos (by omega), if_pos (by omega), if_pos (by rfl)]
      · rw [full, List.all_cons, h0]
        exact Ev.now _
    · have hz : ¬ ((L[i].length : Nat) : Int) = 0 := by
        have : L[i].length ≠ 0 := fun q => h0 (List.eq_nil_of_length_eq_zero q)
        omega
      have hrow := rowW_mem (List.getElem_mem hi')
      have hrw : rowW L[i] = (L[i].map relW).sum + 1 := rfl
      have hn := ih (i + 1) (by omega) (l ++ L[i]) (by rw [List.length_append]; omega) (fun x hxm => by
        rcases List.mem_append.1 hxm with q | q
        · exact hx x q
        · have := relW_mem q; omega)
      have e : (full (L[i] :: L.drop (i + 1)) && (l ++ (L[i] ++ (L.drop (i + 1)).flatten)).all formM) = (full (L.drop (i + 1)) && ((l ++ L[i]) ++ (L.drop (i + 1)).flatten).all formM) := by
        rw [full, List.all_cons, List.append_assoc]
        have : (!L[i].isEmpty) = true := by simpa using h0
        rw [this, Bool.true_and]; rfl
      rw [e]
      refine Ev.step (f := _) (fun k => ?_) hn
      simp only [request_Formed.l1, rd_at hi', ew]
      rw [if_pos (by omega), if_pos (by omega), if_pos (by omega), if_neg hz, if_pos (by omega)]
theorem reqform_ev (L : List (List S46)) (F : List S46) (W : List S48) (h : reqW L F W ≤ 8388608) : Ev (fun k => request_Formed.f k L F W) (reqOk L F W) := by
  obtain ⟨h1, h2, h3, h4, h5⟩ := req_parts h
  have hL1 := fun l a b => reqform_l1 L (by omega) L.length 0 (by omega) l a b
  have hFx : ∀ x ∈ F, relW x ≤ 140737488351232 := fun x q => by have := relW_mem q; omega
  have hWx : ∀ x ∈ wrels W, relW x ≤ 140737488351232 := fun x q => by have := relW_mem q; omega
  have hB : L.flatten.length + F.length + W.length ≤ 8388608 := by omega
  have hF : F.length ≤ 8388608 := by omega
  have hW : W.length ≤ 8388608 := by omega
  clear h h1 h2 h3 h4 h5
  have key : ∀ (d i : Nat), i + d = W.length → ∀ l : List S46, l = F ++ wrels (W.take i) → Ev (fun k => request_Formed.l0 k l W (W.length : Int) (i : Int) L F W) (reqOk L F W) := by
    intro d
    induction d with
    | zero =>
      intro i hi l hl
      obtain rfl : i = W.length := by omega
      rw [List.take_length] at hl
      have hlen : l.length = F.length + W.length := by rw [hl, List.length_append]; unfold wrels; rw [List.length_map]
      have hn := hL1 l (by rw [List.drop_zero]; omega) (fun x hx => by
        rw [hl] at hx
        rcases List.mem_append.1 hx with q | q
        · exact hFx x q
        · exact hWx x q)
      rw [List.drop_zero, hl] at hn
      have e : (full L && ((F ++ wrels W) ++ L.flatten).all formM) = reqOk L F W := by
        unfold reqOk
        rw [okL_parts, List.all_append, List.all_append, fair_flat]
        cases full L <;> cases fair L <;> cases F.all formM <;> cases (wrels W).all formM <;> rfl
      rw [e] at hn
      rw [hl]
      refine Ev.step (f := _) (fun k => ?_) hn
      simp only [request_Formed.l0]
      rw [if_neg (by omega)]
      rfl
    | succ d ih =>
      intro i hi l hl
      have hi' : i < W.length := by omega
      have ew : wrap64 ((i : Int) + 1) = ((i + 1 : Nat) : Int) := by rw [wrap_id (by omega) (by omega)]; omega
      have hlen : l.length = F.length + i := by rw [hl, List.length_append]; unfold wrels; rw [List.length_map, List.length_take]; omega
      have hn := ih (i + 1) (by omega) (l ++ [W[i].f1]) (by rw [List.take_succ_eq_append_getElem hi', hl]; unfold wrels; rw [List.map_append, List.append_assoc]; rfl)
      refine Ev.step (f := _) (fun k => ?_) hn
      simp only [request_Formed.l0, wt_at hi', ew]
      rw [if_pos (by omega), if_pos (by omega), if_pos (by omega), if_pos (by omega)]
  unfold request_Formed.f
  have hc : api_Rel_23.f F = some F := by
    unfold api_Rel_23.f
    simp only [Option.bind_some, List.length_nil, List.nil_append]
    rw [if_pos (by omega)]
  rw [hc]
  exact key W.length 0 (by omega) F (by simp [wrels])
end Go.Proofs.YtmocooihkobdjaaDoor.Model
end
section
set_option linter.unusedVariables false
set_option linter.unusedSimpArgs false
namespace Go.Proofs.YtmocooihkobdjaaDoor.Model
open Go.RowKit Go.Proofs.YtmocooihkobdjaaDoor.T Go.Proofs.YtmocooihkobdjaaDoorW.PrintWords Go.Proofs.YtmocooihkobdjaaDoorW.PrintLast Go.Proofs.YtmocooihkobdjaaDoor.Ver
theorem j_flat_len (L : List (List S46)) : L.flatten.length ≤ (L.map rowW).sum := by
  have h1 := flat_weigh L
  have h2 := row_length L.flatten
  omega
theorem j_four_small (p q r s : Nat) (h : p + q + r + s ≤ 8388608) : p ≤ 8388608 ∧ r ≤ 8388608 ∧ s ≤ 8388608 := by omega
theorem j_mem_small (a b : Nat) (h : b + 1 ≤ 8388608) (h2 : a ≤ b) : a ≤ 8388608 := by omega
theorem j_req_small {L : List (List S46)} {F : List S46} {W : List S48} (h : reqW L F W ≤ 8388608) :
    (∀ o ∈ L, o.length ≤ 8388608) ∧ L.length ≤ 8388608 ∧ F.length ≤ 8388608 ∧ W.length ≤ 8388608 :=
  have ⟨h1, h2, h3, h4, h5⟩ := req_parts h
  ⟨fun o ho => Nat.le_trans (row_len ho) (j_mem_small _ _ h1 (j_flat_len L)), j_four_small _ _ _ _ h4⟩
def joinOk (L : List (List S46)) (F : List S46) (W : List S48) (L2 : List (List S46)) (F2 : List S46) (W2 : List S48) : Bool := reqOk L F W && reqOk L2 F2 W2
def joined (L : List (List S46)) (F : List S46) (W : List S48) (L2 : List (List S46)) (F2 : List S46) (W2 : List S48) : List (List S46) × List S46 × List S48 × Int :=
  if joinOk L F W L2 F2 W2 = true then (L ++ L2, F ++ F2, W ++ W2, 0) else ([], [], [], 1)
theorem join_ev (L : List (List S46)) (F : List S46) (W : List S48) (L2 : List (List S46)) (F2 : List S46) (W2 : List S48) (h : reqW L F W ≤ 8388608) (h2 : reqW L2 F2 W2 ≤ 8388608) : Ev (fun k => request_Join.f k L F W L2 F2 W2) (joined L F W L2 F2 W2) := by
  obtain ⟨a0, a1, a2, a3⟩ := j_req_small h
  obtain ⟨b0, b1, b2, b3⟩ := j_req_small h2
  have e1 := reqform_ev L F W h
  have e2 := reqform_ev L2 F2 W2 h2
  clear h h2
  unfold request_Join.f joined joinOk
  refine Ev.bind e1 ?_
  cases reqOk L F W with
  | false => simp only [Bool.false_eq_true, if_false, Bool.false_and]; exact Ev.now _
  | true =>
    simp only [if_true, Bool.true_and]
    refine Ev.bind e2 ?_
    cases reqOk L2 F2 W2 with
    | false => simp only [Bool.false_eq_true, if_false]; exact Ev.now _
    | true =>
      simp only [if_true]
      rw [if_pos ⟨by omega, by omega, by omega, fun o ho => by rcases List.mem_append.1 ho with q | q; (have := a0 o q; omega); (have := b0 o q; omega)⟩]
      exact Ev.now _
end Go.Proofs.YtmocooihkobdjaaDoor.Model
end
section
set_option linter.unusedVariables false
set_option linter.unusedSimpArgs false
namespace Go.Proofs.YtmocooihkobdjaaDoor.Model
open Go.RowKit Go.Proofs.YtmocooihkobdjaaDoor.T Go.Proofs.YtmocooihkobdjaaDoorW.PrintWords Go.Proofs.YtmocooihkobdjaaDoorW.PrintLast Go.Proofs.YtmocooihkobdjaaDoor.Ver
theorem samerels_self (l : List S46) (hl : l.length ≤ 140737488351232) : Ev (fun k => depotref00_SameRels.f k l l) true := by
  have key : ∀ (d i : Nat), i + d = l.length → Ev (fun k => depotref00_SameRels.l0 k l l (i : Int)) true := by
    intro d
    induction d with
    | zero =>
      intro i hi
      refine Ev.step (f := fun _ => some true) (fun k => ?_) (Ev.now _)
      simp only [depotref00_SameRels.l0]
      rw [if_neg (by omega)]
    | succ d ih =>
      intro i hi
      have ew : wrap64 ((i : Int) + 1) = ((i + 1 : Nat) : Int) := by rw [wrap_id (by omega) (by omega)]; omega
      refine Ev.step (f := fun k => depotref00_SameRels.l0 k l l ((i + 1 : Nat) : Int)) (fun k => ?_) (ih (i + 1) (by omega))
      simp only [depotref00_SameRels.l0, ew, if_pos (show (i : Int) < l.length by omega), if_pos (show (0 : Int) ≤ i by omega)]
      simp
  unfold depotref00_SameRels.f
  simp only [if_true]
  exact key l.length 0 (by omega)
theorem samelists_self (l : List (List S46)) (hl : l.length ≤ 140737488351232) (hin : ∀ m ∈ l, m.length ≤ 140737488351232) : Ev (fun k => depotref00_SameLists.f k l l) true := by
  have key : ∀ (d i : Nat), i + d = l.length → Ev (fun k => depotref00_SameLists.l0 k l l (i : Int)) true := by
    intro d
    induction d with
    | zero =>
      intro i hi
      refine Ev.step (f := fun _ => some true) (fun k => ?_) (Ev.now _)
      simp only [depotref00_SameLists.l0]
      rw [if_neg (by omega)]
    | succ d ih =>
      intro i hi
      have ew : wrap64 ((i : Int) + 1) = ((i + 1 : Nat) : Int) := by rw [wrap_id (by omega) (by omega)]; omega
      refine Ev.step (f := fun k => (depotref00_SameRels.f k (rd_L3 l (i : Int)) (rd_L3 l (i : Int))).bind fun t198 => (if t198 = true then (depotref00_SameLists.l0 k l l ((i + 1 : Nat) : Int)) else (some false))) (fun k => ?_) ?_
      · simp only [depotref00_SameLists.l0, ew, if_pos (show (i : Int) < l.length by omega), if_pos (show (0 : Int) ≤ i by omega)]
      · have hi' : i < l.length := by omega
        rw [rd_at hi']
        refine Ev.bind (samerels_self _ (hin _ (List.getElem_mem hi'))) ?_
        simp only [if_true]
        exact ih (i + 1) (by omega)
  unfold depotref00_SameLists.f
  simp only [if_true]
  exact key l.length 0 (by omega)
theorem samewishes_self (l : List S48) (hl : l.length ≤ 140737488351232) : Ev (fun k => depotref00_SameWishes.f k l l) true := by
  have key : ∀ (d i : Nat), i + d = l.length → Ev (fun k => depotref00_SameWishes.l0 k l l (i : Int)) true := by
    intro d
    induction d with
    | zero =>
      intro i hi
      refine Ev.step (f := fun _ => some true) (fun k => ?_) (Ev.now _)
      simp only [depotref00_SameWishes.l0]
      rw [if_neg (by omega)]
    | succ d ih =>
      intro i hi
      have ew : wrap64 ((i : Int) + 1) = ((i + 1 : Nat) : Int) := by rw [wrap_id (by omega) (by omega)]; omega
      refine Ev.step (f := fun k => depotref00_SameWishes.l0 k l l ((i + 1 : Nat) : Int)) (fun k => ?_) (ih (i + 1) (by omega))
      simp only [depotref00_SameWishes.l0, ew, if_pos (show (i : Int) < l.length by omega), if_pos (show (0 : Int) ≤ i by omega)]
      simp
  unfold depotref00_SameWishes.f
  simp only [if_true]
  exact key l.length 0 (by omega)
theorem samereq_self (L : List (List S46)) (F : List S46) (W : List S48) (hL : L.length ≤ 100000000) (hin : ∀ m ∈ L, m.length ≤ 100000000) (hF : F.length ≤ 100000000) (hW : W.length ≤ 100000000) : Ev (fun k => depotref00_SameRequest.f k L F W L F W) true := by
  unfold depotref00_SameRequest.f
  refine Ev.bind (samelists_self L (by omega) (fun m hm => by have := hin m hm; omega)) ?_
  simp only [if_true]
  refine Ev.bind (samerels_self F (by omega)) ?_
  simp only [if_true]
  exact Ev.bind (samewishes_self W (by omega)) (Ev.now _)
end Go.Proofs.YtmocooihkobdjaaDoor.Model
end
section
set_option linter.unusedVariables false
set_option linter.unusedSimpArgs false
namespace Go.Proofs.YtmocooihkobdjaaDoor.Model
open Go.RowKit Go.Proofs.YtmocooihkobdjaaDoor.T Go.Proofs.YtmocooihkobdjaaDoorW.PrintWords Go.Proofs.YtmocooihkobdjaaDoorW.PrintLast Go.Proofs.YtmocooihkobdjaaDoor.Ver
theorem feeds_ev (s : ByteArray) (hs : s.size ≤ 1000000000) : Ev (fun k => depotlaw24_feeds.f k s) ((s.data.toList.count 10 : Nat) : Int) := by
  have key : ∀ (d i : Nat), i + d = s.size → ∀ n : Nat, n ≤ i → Ev (fun k => depotlaw24_feeds.l0 k s (n : Int) (i : Int)) ((n + (at_ s i).count 10 : Nat) : Int) := by
    intro d
    induction d with
    | zero =>
      intro i hi n hn
      obtain rfl : i = s.size := by omega
      rw [at_end]
      refine Ev.step (f := fun _ => some (n : Int)) (fun k => ?_) (Ev.now _)
      simp only [depotlaw24_feeds.l0]
      rw [if_neg (by omega)]
    | succ d ih =>
      intro i hi n hn
      have hi' : i < s.size := by omega
      have ew : wrap64 ((i : Int) + 1) = ((i + 1 : Nat) : Int) := by rw [wrap_id (by omega) (by omega)]; omega
      have ew2 : wrap64 ((n : Int) + 1) = ((n + 1 : Nat) : Int) := by rw [wrap_id (by omega) (by omega)]; omega
      have hbt := bt_eq s i hi'
      rw [at_lt hi']
      by_cases hc : s[i]'hi' = 10
      · have hb : bt s (i : Int) = 10 := by rw [hbt, hc]; rfl
        have h := ih (i + 1) (by omega) (n + 1) (by omega)
        rw [hc, show List.count (10 : UInt8) (10 :: at_ s (i + 1)) = (at_ s (i + 1)).count 10 + 1 by simp]
        rw [show n + ((at_ s (i + 1)).count 10 + 1) = n + 1 + (at_ s (i + 1)).count 10 by omega]
        refine Ev.step (f := _) (fun k => ?_) h
        simp only [depotlaw24_feeds.l0, ew, ew2, hb, if_true, if_pos (show (i : Int) < (s.size : Int) by omega), if_pos (show (0 : Int) ≤ (i : Int) by omega)]
      · have hb : ¬ bt s (i : Int) = 10 := by
          rw [hbt]
          exact fun q => hc (toNat_inj.1 (show ((s[i]'hi').toNat : Int) = ((10 : UInt8).toNat : Int) from q))
        have h := ih (i + 1) (by omega) n (by omega)
        rw [List.count_cons_of_ne hc]
        refine Ev.step (f := _) (fun k => ?_) h
        simp only [depotlaw24_feeds.l0, ew, if_neg hb, if_pos (show (i : Int) < (s.size : Int) by omega), if_pos (show (0 : Int) ≤ (i : Int) by omega)]
  have := key s.size 0 (by omega) 0 (by omega)
  simpa [depotlaw24_feeds.f, at_zero] using this
end Go.Proofs.YtmocooihkobdjaaDoor.Model
end
section
set_option linter.unusedVariables false
set_option linter.unusedSimpArgs false
namespace Go.Proofs.YtmocooihkobdjaaDoor.Model
open Go.RowKit Go.Proofs.YtmocooihkobdjaaDoor.T Go.Proofs.YtmocooihkobdjaaDoorW.PrintWords Go.Proofs.YtmocooihkobdjaaDoorW.PrintLast Go.Proofs.YtmocooihkobdjaaDoor.Ver
theorem lines_line : ∀ (b : List B) (j : Nat) (q : Q), 0 ≤ (linesM b j q).2.2.2.2 ∧ (linesM b j q).2.2.2.2 ≤ ((j + b.length : Nat) : Int)
  | [], j, q => by simp only [linesM]; omega
  | l :: b, j, q => by
    rw [linesM, List.length_cons]
    split
    · have := lines_line b (j + 1) q
      omega
    · split
      · have := lines_line b (j + 1) (stepM (trimM l) q).1
        omega
      · simp only
        omega
theorem requestTwo_ev (s t : ByteArray) (hs : s.size ≤ 1048576) (ht : t.size ≤ 1048576) : Ev (fun k => depotlaw24_RequestTwo.f k s t) true := by
  have l1 : s.data.toList.length = s.size := by simp
  have l2 : t.data.toList.length = t.size := by simp
  have z10 : (⟨#[10]⟩ : ByteArray).size = 1 := rfl
  have za : (s ++ (⟨#[10]⟩ : ByteArray)).size = s.size + 1 := by rw [ByteArray.size_append]; rfl
  have zb : ((s ++ (⟨#[10]⟩ : ByteArray)) ++ t).size = s.size + 1 + t.size := by rw [ByteArray.size_append, za]
  have e3 : ((s ++ (⟨#[10]⟩ : ByteArray)) ++ t).data.toList = s.data.toList ++ 10 :: t.data.toList := by
    rw [bytes_app, bytes_app, List.append_assoc]
    rfl
  have h1 := Req_ev s (by omega)
  have h2 := Req_ev t (by omega)
  have h3 := Req_ev ((s ++ (⟨#[10]⟩ : ByteArray)) ++ t) (by omega)
  rw [e3, req_two] at h3
  have m1 := reqM_m s.data.toList
  have m2 := reqM_m t.data.toList
  have w1 := reqM_w s.data.toList
  have w2 := reqM_w t.data.toList
  have o1 := reqM_ok s.data.toList
  have o2 := reqM_ok t.data.toList
  have ln := lines_line (splitL t.data.toList) 0 ([], [], [])
  rw [split_count] at ln
  have ct : t.data.toList.count 10 ≤ t.data.toList.length := List.count_le_length
  have cs : s.data.toList.count 10 ≤ s.data.toList.length := List.count_le_length
  have hf := feeds_ev s (by omega)
  change 0 ≤ (reqM t.data.toList).2.2.2.2 ∧ (reqM t.data.toList).2.2.2.2 ≤ _ at ln
  generalize s.data.toList.count 10 = n at h3 hf cs
  generalize reqM s.data.toList = R1 at h1 h3 m1 w1 o1
  generalize reqM t.data.toList = R2 at h2 h3 m2 w2 o2 ln
  obtain ⟨L1, F1, W1, er1, p1⟩ := R1
  obtain ⟨L2, F2, W2, er2, p2⟩ := R2
  simp only [mQ] at h3 m1 m2 w1 w2 o1 o2 ln
  unfold depotlaw24_RequestTwo.f
  refine Ev.bind h1 ?_
  refine Ev.bind h2 ?_
  simp only [za, if_pos (show s.size + 1 ≤ 9223372036854775807 by omega), if_pos (show s.size + 1 + t.size ≤ 9223372036854775807 by omega)]
  refine Ev.bind h3 ?_
  by_cases c1 : er1 = 0
  · subst c1
    simp only [if_true]
    by_cases c2 : er2 = 0
    · subst c2
      simp only [if_true]
      refine Ev.bind (join_ev L1 F1 W1 L2 F2 W2 (by omega) (by omega)) ?_
      have hj : joined L1 F1 W1 L2 F2 W2 = (L1 ++ L2, F1 ++ F2, W1 ++ W2, 0) := by
        unfold joined joinOk
        rw [o1, o2]
        rfl
      rw [hj]
      simp only [if_true]
      refine Ev.bind (samereq_self _ _ _ (by rw [List.length_append]; omega) (fun m hm => by
        rcases List.mem_append.1 hm with h | h
        · have := mem_flat h; omega
        · have := mem_flat h; omega) (by rw [List.length_append]; omega) (by rw [List.length_append]; omega)) ?_
      simp only [if_true]
      exact Ev.bind awake_ev (Ev.now _)
    · simp only [if_neg c2, if_true]
      refine Ev.bind hf ?_
      have e : p2 + ((n + 1 : Nat) : Int) = wrap64 (wrap64 ((n : Int) + 1) + p2) := by
        rw [wrap_id (x := (n : Int) + 1) (by omega) (by omega), wrap_id (by omega) (by omega)]
        omega
      simp only [if_pos e]
      exact Ev.bind awake_ev (Ev.now _)
  · simp only [if_neg c1, if_true]
    exact Ev.bind awake_ev (Ev.now _)
end Go.Proofs.YtmocooihkobdjaaDoor.Model
end
