/- A part of the proof: the texts of this claim, packed by a program of this session (wip/pack.py). -/
import Derived.Test.YtmocooihkobdjaaDoorGk1
section
namespace Go.Proofs.YtmocooihkobdjaaDoor.G
open Go.RowKit Go.Proofs.YtmocooihkobdjaaDoorW.PrintWords Go.Proofs.YtmocooihkobdjaaDoorW.PrintLast Go.Proofs.YtmocooihkobdjaaDoorW.PrintMore
attribute [local go_sem] max2_int min2_int max_two min_two max_three min_three max_four min_four
set_option linter.unusedVariables false
set_option linter.unusedSimpArgs false
def depotref00_SameRequest.f (k : Nat) (l0_0 : List (List (S46))) (l0_1 : List (S46)) (l0_2 : List (S48)) (l1_0 : List (List (S46))) (l1_1 : List (S46)) (l1_2 : List (S48)) : Option (Bool) := (depotref00_SameLists.f k l0_0 l1_0).bind fun t161 => (if t161 = true then ((depotref00_SameRels.f k l0_1 l1_1).bind fun t162 => (if t162 = true then ((depotref00_SameWishes.f k l0_2 l1_2).bind fun t163 => (some t163)) else (some false))) else (some false))
theorem depotref00_SameRequest.mono : ∀ a0 a1 a2 a3 a4 a5 k, LeO (depotref00_SameRequest.f k a0 a1 a2 a3 a4 a5) (depotref00_SameRequest.f (k + 1) a0 a1 a2 a3 a4 a5) := by
 intro a0 a1 a2 a3 a4 a5 k
 unfold depotref00_SameRequest.f
 repeat' first
   | (with_reducible exact depotref00_SameLists.mono _ _ _)
   | (with_reducible exact depotref00_SameRels.mono _ _ _)
   | (with_reducible exact depotref00_SameWishes.mono _ _ _)
   | (with_reducible exact LeO.refl _)
   | (with_reducible exact LeO.none _)
   | (with_reducible refine LeO.ite ?_ ?_)
   | (with_reducible refine LeO.bind ?_ (fun _ => ?_))
   | exact depotref00_SameLists.mono _ _ _
   | exact depotref00_SameRels.mono _ _ _
   | exact depotref00_SameWishes.mono _ _ _
   | exact LeO.none _
   | refine LeO.ite ?_ ?_
   | refine LeO.bind ?_ (fun _ => ?_)
set_option maxHeartbeats 8000000 in
set_option maxRecDepth 100000 in
theorem depotref00_SameRequest.calls (k : Nat) (A0_0 : Option Addr) (c0_0 : Nat) (l0_0 : List (List (S46))) (A0_1 : Option Addr) (c0_1 : Nat) (l0_1 : List (S46)) (A0_2 : Option Addr) (c0_2 : Nat) (l0_2 : List (S48)) (A1_0 : Option Addr) (c1_0 : Nat) (l1_0 : List (List (S46))) (A1_1 : Option Addr) (c1_1 : Nat) (l1_1 : List (S46)) (A1_2 : Option Addr) (c1_2 : Nat) (l1_2 : List (S48)) (r : Bool) (w : World) (hr0_0 : Kd.C (Kd.slice 46 k46) w A0_0 l0_0.length l0_0) (hc0_0 : l0_0.length ≤ c0_0) (hr0_1 : Kd.C k46 w A0_1 l0_1.length l0_1) (hc0_1 : l0_1.length ≤ c0_1) (hr0_2 : Kd.C k48 w A0_2 l0_2.length l0_2) (hc0_2 : l0_2.length ≤ c0_2) (hr1_0 : Kd.C (Kd.slice 46 k46) w A1_0 l1_0.length l1_0) (hc1_0 : l1_0.length ≤ c1_0) (hr1_1 : Kd.C k46 w A1_1 l1_1.length l1_1) (hc1_1 : l1_1.length ≤ c1_1) (hr1_2 : Kd.C k48 w A1_2 l1_2.length l1_2) (hc1_2 : l1_2.length ≤ c1_2) (h : depotref00_SameRequest.f k l0_0 l0_1 l0_2 l1_0 l1_1 l1_2 = some r) :
  Calls Tryd.prog 16 #[.agg #[.slice A0_0 l0_0.length c0_0, .slice A0_1 l0_1.length c0_1, .slice A0_2 l0_2.length c0_2], .agg #[.slice A1_0 l1_0.length c1_0, .slice A1_1 l1_1.length c1_1, .slice A1_2 l1_2.length c1_2]] w fun e w' => e = .returned (.bool r) ∧ Below w.heap.size w w' := by
 have hu26 := Tryd.underlying26
 have HR0_0 := Aside0.mk hr0_0
 have HC0_0 := Aside0.mk hc0_0
 clear hr0_0 hc0_0
 have HR0_1 := Aside0.mk hr0_1
 have HC0_1 := Aside0.mk hc0_1
 clear hr0_1 hc0_1
 have HR0_2 := Aside0.mk hr0_2
 have HC0_2 := Aside0.mk hc0_2
 clear hr0_2 hc0_2
 have HR1_0 := Aside0.mk hr1_0
 have HC1_0 := Aside0.mk hc1_0
 clear hr1_0 hc1_0
 have HR1_1 := Aside0.mk hr1_1
 have HC1_1 := Aside0.mk hc1_1
 clear hr1_1 hc1_1
 have HR1_2 := Aside0.mk hr1_2
 have HC1_2 := Aside0.mk hc1_2
 clear hr1_2 hc1_2
 have HB := Aside0.mk (Below.refl w.heap.size w)
 have H : ((depotref00_SameLists.f k l0_0 l1_0).bind fun t161 => (if t161 = true then ((depotref00_SameRels.f k l0_1 l1_1).bind fun t162 => (if t162 = true then ((depotref00_SameWishes.f k l0_2 l1_2).bind fun t163 => (some t163)) else (some false))) else (some false))) = some r := h
 clear h
 replace H := Option.bind_eq_some_iff.mp H
 obtain ⟨t161, A30, H⟩ := H
 replace H : (if t161 = true then ((depotref00_SameRels.f k l0_1 l1_1).bind fun t162 => (if t162 = true then ((depotref00_SameWishes.f k l0_2 l1_2).bind fun t163 => (some t163)) else (some false))) else (some false)) = some r := H
 have A3 := Aside0.mk A30
 clear A30
 by_cases c4 : t161 = true
 ·subst c4
  have H1 : ((depotref00_SameRels.f k l0_1 l1_1).bind fun t162 => (if t162 = true then ((depotref00_SameWishes.f k l0_2 l1_2).bind fun t163 => (some t163)) else (some false))) = some r := by rw [if_pos rfl] at H; exact H
  clear H
  have H := H1
  clear H1
  replace H := Option.bind_eq_some_iff.mp H
  obtain ⟨t162, A50, H⟩ := H
  replace H : (if t162 = true then ((depotref00_SameWishes.f k l0_2 l1_2).bind fun t163 => (some t163)) else (some false)) = some r := H
  have A5 := Aside0.mk A50
  clear A50
  by_cases c6 : t162 = true
  ·subst c6
   have H1 : ((depotref00_SameWishes.f k l0_2 l1_2).bind fun t163 => (some t163)) = some r := by rw [if_pos rfl] at H; exact H
   clear H
   have H := H1
   clear H1
   replace H := Option.bind_eq_some_iff.mp H
   obtain ⟨t163, A70, H⟩ := H
   replace H : (some t163) = some r := H
   have A7 := Aside0.mk A70
   clear A70
   obtain rfl := Option.some.inj H
   go_enter Tryd.func16, Tryd.ntmps16
   go_wp2_with (first | ((with_reducible refine gate_dst (N := 2) rfl ?_); refine box_event ?hg (N := 2) ?hd (cs := #[.slice A0_0 l0_0.length c0_0, .slice A0_1 l0_1.length c0_1, .slice A0_2 l0_2.length c0_2]) (t := 26) ?hr ?_; (case hd => rfl); (case hg => rfl); (case hr => first | (go_simp; done) | (go_simp; rfl)); intro gb159 hg w8 hbox hb; have n0_ := Aside0.mk (below_step (W0 HB.out) hb); have n1_ := Aside0.mk (hbox); have n2_ := Aside0.mk ((by rw [hg]; exact (below_size (W0 HB.out)) : w.heap.size ≤ gb159)); have n3_ := Aside0.mk ((by rw [hg]; exact (below_size (W0 HB.out)) : w.heap.size ≤ gb159)); clear HB; have HB := n0_; have BK159 := n1_; have GW159 := n2_; have GE159 := n3_; clear n0_ n1_ n2_ n3_; clear hb hbox hg) | ((with_reducible refine gate_dst (N := 3) rfl ?_); refine box_event ?hg (N := 3) ?hd (cs := #[.slice A1_0 l1_0.length c1_0, .slice A1_1 l1_1.length c1_1, .slice A1_2 l1_2.length c1_2]) (t := 26) ?hr ?_; (case hd => rfl); (case hg => rfl); (case hr => first | (go_simp; done) | (go_simp; rfl)); intro gb160 hg w9 hbox hb; have n0_ := Aside0.mk (blk_below (g := gb159) (Bq BK159.out) hb); have n1_ := Aside0.mk (below_step (W1 HB.out GE159.out) hb); have n2_ := Aside0.mk (hbox); have n3_ := Aside0.mk ((by rw [hg]; exact (below_size (W1 HB.out GE159.out)) : w.heap.size ≤ gb160)); have n4_ := Aside0.mk ((by rw [hg]; exact (below_size (W1 HB.out GE159.out)) : w.heap.size ≤ gb160)); have n5_ := Aside0.mk ((by rw [hg]; exact Nat.ne_of_lt (blk_lt (g := gb159) (Bq BK159.out)) : gb159 ≠ gb160)); have n6_ := Aside0.mk ((by rw [hg]; exact Nat.ne_of_gt (blk_lt (g := gb159) (Bq BK159.out)) : gb160 ≠ gb159)); clear BK159; clear HB; have BK159 := n0_; have HB := n1_; have BK160 := n2_; have GW160 := n3_; have GE160 := n4_; have NB159_160 := n5_; have NB160_159 := n6_; clear n0_ n1_ n2_ n3_ n4_ n5_ n6_; clear hb hbox hg; have hnb10 := NB159_160.out; have hnc10 := NB160_159.out; have hcz11_0 : w9.cell? ⟨gb159, 0, none⟩ = some (.slice A0_0 l0_0.length c0_0) := (blk_cell BK159.out 0).trans rfl; have hcz11_1 : w9.cell? ⟨gb159, 1, none⟩ = some (.slice A0_1 l0_1.length c0_1) := (blk_cell BK159.out 1).trans rfl; have hcz11_2 : w9.cell? ⟨gb159, 2, none⟩ = some (.slice A0_2 l0_2.length c0_2) := (blk_cell BK159.out 2).trans rfl; have hfz11_0 := blk_frozen BK159.out 0; have hfz11_1 := blk_frozen BK159.out 1; have hfz11_2 := blk_frozen BK159.out 2; have hcz12_0 : w9.cell? ⟨gb160, 0, none⟩ = some (.slice A1_0 l1_0.length c1_0) := (blk_cell BK160.out 0).trans rfl; have hcz12_1 : w9.cell? ⟨gb160, 1, none⟩ = some (.slice A1_1 l1_1.length c1_1) := (blk_cell BK160.out 1).trans rfl; have hcz12_2 : w9.cell? ⟨gb160, 2, none⟩ = some (.slice A1_2 l1_2.length c1_2) := (blk_cell BK160.out 2).trans rfl; have hfz12_0 := blk_frozen BK160.out 0; have hfz12_1 := blk_frozen BK160.out 1; have hfz12_2 := blk_frozen BK160.out 2) | ((with_reducible refine gate_callee (f := 31) rfl ?_); refine goesL_ (some 9) rfl rfl Tryd.func31 (by kernel_rfl) rfl #[.slice A0_0 l0_0.length c0_0, .slice A1_0 l1_0.length c1_0] rfl (by (try simp only [List.map_toArray, List.map_cons, List.map_nil]); first | done | rfl | (simp only [List.length_drop, List.length_take]; rfl) | (simp; done)) ?_; (with_reducible refine (depotref00_SameLists.calls k _ _ l0_0 _ _ l1_0 true _ ?side1 ?side2 ?side3 ?side4 A3.out).mono ?_); (case side1 => exact Cq HR0_0.out HB.out); (case side2 => exact HC0_0.out); (case side3 => exact Cq HR1_0.out HB.out); (case side4 => exact HC1_0.out); rintro e w' ⟨rfl, ⟨nd, rfl⟩⟩; refine ⟨_, rfl, ?_⟩) | (go_at_call 32; (with_reducible refine (depotref00_SameRels.calls k _ _ l0_1 _ _ l1_1 true _ ?side1 ?side2 ?side3 ?side4 A5.out).mono ?_); (case side1 => repeat (first | exact (Kd.C_below HR0_1.out (W2 HB.out GE159.out GE160.out)) | (with_reducible refine Kd.C_alloc ?_ _) | (with_reducible refine Kd.C_drewN ?_ _) | (with_reducible refine Kd.C_drew ?_))); (case side2 => exact HC0_1.out); (case side3 => repeat (first | exact (Kd.C_below HR1_1.out (W2 HB.out GE159.out GE160.out)) | (with_reducible refine Kd.C_alloc ?_ _) | (with_reducible refine Kd.C_drewN ?_ _) | (with_reducible refine Kd.C_drew ?_))); (case side4 => exact HC1_1.out); rintro e w' ⟨rfl, ⟨nd, rfl⟩⟩) | (go_at_call 33; (with_reducible refine (depotref00_SameWishes.calls k _ _ l0_2 _ _ l1_2 t163 _ ?side1 ?side2 ?side3 ?side4 A7.out).mono ?_); (case side1 => repeat (first | exact (Kd.C_below HR0_2.out (W2 HB.out GE159.out GE160.out)) | (with_reducible refine Kd.C_alloc ?_ _) | (with_reducible refine Kd.C_drewN ?_ _) | (with_reducible refine Kd.C_drew ?_))); (case side2 => exact HC0_2.out); (case side3 => repeat (first | exact (Kd.C_below HR1_2.out (W2 HB.out GE159.out GE160.out)) | (with_reducible refine Kd.C_alloc ?_ _) | (with_reducible refine Kd.C_drewN ?_ _) | (with_reducible refine Kd.C_drew ?_))); (case side4 => exact HC1_2.out); rintro e w' ⟨rfl, ⟨nd, rfl⟩⟩))
   go_ret
   exact ⟨by first | rfl | (simp [errW_none, errW_some] <;> rfl) | (simp [*, errW_none, errW_some] <;> rfl) | (simp [errW_none, errW_some, Go.Proofs.YtmocooihkobdjaaDoor.listNe]; done), by repeat (first | (with_reducible first | exact HB.out | apply below_alloc | apply pw_below_drewN | apply below_drew1 | refine below_set ?_ GE159.out | refine below_set ?_ GE160.out) | exact HB.out)⟩
  ·replace c6 := Bool.eq_false_iff.mpr c6
   subst c6
   have H1 : (some false) = some r := by rw [if_neg (show ¬ (false = true) by decide)] at H; exact H
   clear H
   have H := H1
   clear H1
   obtain rfl := Option.some.inj H
   go_enter Tryd.func16, Tryd.ntmps16
   go_wp2_with (first | ((with_reducible refine gate_dst (N := 2) rfl ?_); refine box_event ?hg (N := 2) ?hd (cs := #[.slice A0_0 l0_0.length c0_0, .slice A0_1 l0_1.length c0_1, .slice A0_2 l0_2.length c0_2]) (t := 26) ?hr ?_; (case hd => rfl); (case hg => rfl); (case hr => first | (go_simp; done) | (go_simp; rfl)); intro gb159 hg w13 hbox hb; have n0_ := Aside0.mk (below_step (W0 HB.out) hb); have n1_ := Aside0.mk (hbox); have n2_ := Aside0.mk ((by rw [hg]; exact (below_size (W0 HB.out)) : w.heap.size ≤ gb159)); have n3_ := Aside0.mk ((by rw [hg]; exact (below_size (W0 HB.out)) : w.heap.size ≤ gb159)); clear HB; have HB := n0_; have BK159 := n1_; have GW159 := n2_; have GE159 := n3_; clear n0_ n1_ n2_ n3_; clear hb hbox hg) | ((with_reducible refine gate_dst (N := 3) rfl ?_); refine box_event ?hg (N := 3) ?hd (cs := #[.slice A1_0 l1_0.length c1_0, .slice A1_1 l1_1.length c1_1, .slice A1_2 l1_2.length c1_2]) (t := 26) ?hr ?_; (case hd => rfl); (case hg => rfl); (case hr => first | (go_simp; done) | (go_simp; rfl)); intro gb160 hg w14 hbox hb; have n0_ := Aside0.mk (blk_below (g := gb159) (Bq BK159.out) hb); have n1_ := Aside0.mk (below_step (W1 HB.out GE159.out) hb); have n2_ := Aside0.mk (hbox); have n3_ := Aside0.mk ((by rw [hg]; exact (below_size (W1 HB.out GE159.out)) : w.heap.size ≤ gb160)); have n4_ := Aside0.mk ((by rw [hg]; exact (below_size (W1 HB.out GE159.out)) : w.heap.size ≤ gb160)); have n5_ := Aside0.mk ((by rw [hg]; exact Nat.ne_of_lt (blk_lt (g := gb159) (Bq BK159.out)) : gb159 ≠ gb160)); have n6_ := Aside0.mk ((by rw [hg]; exact Nat.ne_of_gt (blk_lt (g := gb159) (Bq BK159.out)) : gb160 ≠ gb159)); clear BK159; clear HB; have BK159 := n0_; have HB := n1_; have BK160 := n2_; have GW160 := n3_; have GE160 := n4_; have NB159_160 := n5_; have NB160_159 := n6_; clear n0_ n1_ n2_ n3_ n4_ n5_ n6_; clear hb hbox hg; have hnb15 := NB159_160.out; have hnc15 := NB160_159.out; have hcz16_0 : w14.cell? ⟨gb159, 0, none⟩ = some (.slice A0_0 l0_0.length c0_0) := (blk_cell BK159.out 0).trans rfl; have hcz16_1 : w14.cell? ⟨gb159, 1, none⟩ = some (.slice A0_1 l0_1.length c0_1) := (blk_cell BK159.out 1).trans rfl; have hcz16_2 : w14.cell? ⟨gb159, 2, none⟩ = some (.slice A0_2 l0_2.length c0_2) := (blk_cell BK159.out 2).trans rfl; have hfz16_0 := blk_frozen BK159.out 0; have hfz16_1 := blk_frozen BK159.out 1; have hfz16_2 := blk_frozen BK159.out 2; have hcz17_0 : w14.cell? ⟨gb160, 0, none⟩ = some (.slice A1_0 l1_0.length c1_0) := (blk_cell BK160.out 0).trans rfl; have hcz17_1 : w14.cell? ⟨gb160, 1, none⟩ = some (.slice A1_1 l1_1.length c1_1) := (blk_cell BK160.out 1).trans rfl; have hcz17_2 : w14.cell? ⟨gb160, 2, none⟩ = some (.slice A1_2 l1_2.length c1_2) := (blk_cell BK160.out 2).trans rfl; have hfz17_0 := blk_frozen BK160.out 0; have hfz17_1 := blk_frozen BK160.out 1; have hfz17_2 := blk_frozen BK160.out 2) | ((with_reducible refine gate_callee (f := 31) rfl ?_); refine goesL_ (some 9) rfl rfl Tryd.func31 (by kernel_rfl) rfl #[.slice A0_0 l0_0.length c0_0, .slice A1_0 l1_0.length c1_0] rfl (by (try simp only [List.map_toArray, List.map_cons, List.map_nil]); first | done | rfl | (simp only [List.length_drop, List.length_take]; rfl) | (simp; done)) ?_; (with_reducible refine (depotref00_SameLists.calls k _ _ l0_0 _ _ l1_0 true _ ?side1 ?side2 ?side3 ?side4 A3.out).mono ?_); (case side1 => exact Cq HR0_0.out HB.out); (case side2 => exact HC0_0.out); (case side3 => exact Cq HR1_0.out HB.out); (case side4 => exact HC1_0.out); rintro e w' ⟨rfl, ⟨nd, rfl⟩⟩; refine ⟨_, rfl, ?_⟩) | (go_at_call 32; (with_reducible refine (depotref00_SameRels.calls k _ _ l0_1 _ _ l1_1 false _ ?side1 ?side2 ?side3 ?side4 A5.out).mono ?_); (case side1 => repeat (first | exact (Kd.C_below HR0_1.out (W2 HB.out GE159.out GE160.out)) | (with_reducible refine Kd.C_alloc ?_ _) | (with_reducible refine Kd.C_drewN ?_ _) | (with_reducible refine Kd.C_drew ?_))); (case side2 => exact HC0_1.out); (case side3 => repeat (first | exact (Kd.C_below HR1_1.out (W2 HB.out GE159.out GE160.out)) | (with_reducible refine Kd.C_alloc ?_ _) | (with_reducible refine Kd.C_drewN ?_ _) | (with_reducible refine Kd.C_drew ?_))); (case side4 => exact HC1_1.out); rintro e w' ⟨rfl, ⟨nd, rfl⟩⟩))
   go_ret
   exact ⟨by first | rfl | (simp [errW_none, errW_some] <;> rfl) | (simp [*, errW_none, errW_some] <;> rfl) | (simp [errW_none, errW_some, Go.Proofs.YtmocooihkobdjaaDoor.listNe]; done), by repeat (first | (with_reducible first | exact HB.out | apply below_alloc | apply pw_below_drewN | apply below_drew1 | refine below_set ?_ GE159.out | refine below_set ?_ GE160.out) | exact HB.out)⟩
 ·replace c4 := Bool.eq_false_iff.mpr c4
  subst c4
  have H1 : (some false) = some r := by rw [if_neg (show ¬ (false = true) by decide)] at H; exact H
  clear H
  have H := H1
  clear H1
  obtain rfl := Option.some.inj H
  go_enter Tryd.func16, Tryd.ntmps16
  go_wp2_with (first | ((with_reducible refine gate_dst (N := 2) rfl ?_); refine box_event ?hg (N := 2) ?hd (cs := #[.slice A0_0 l0_0.length c0_0, .slice A0_1 l0_1.length c0_1, .slice A0_2 l0_2.length c0_2]) (t := 26) ?hr ?_; (case hd => rfl); (case hg => rfl); (case hr => first | (go_simp; done) | (go_simp; rfl)); intro gb159 hg w18 hbox hb; have n0_ := Aside0.mk (below_step (W0 HB.out) hb); have n1_ := Aside0.mk (hbox); have n2_ := Aside0.mk ((by rw [hg]; exact (below_size (W0 HB.out)) : w.heap.size ≤ gb159)); have n3_ := Aside0.mk ((by rw [hg]; exact (below_size (W0 HB.out)) : w.heap.size ≤ gb159)); clear HB; have HB := n0_; have BK159 := n1_; have GW159 := n2_; have GE159 := n3_; clear n0_ n1_ n2_ n3_; clear hb hbox hg) | ((with_reducible refine gate_dst (N := 3) rfl ?_); refine box_event ?hg (N := 3) ?hd (cs := #[.slice A1_0 l1_0.length c1_0, .slice A1_1 l1_1.length c1_1, .slice A1_2 l1_2.length c1_2]) (t := 26) ?hr ?_; (case hd => rfl); (case hg => rfl); (case hr => first | (go_simp; done) | (go_simp; rfl)); intro gb160 hg w19 hbox hb; have n0_ := Aside0.mk (blk_below (g := gb159) (Bq BK159.out) hb); have n1_ := Aside0.mk (below_step (W1 HB.out GE159.out) hb); have n2_ := Aside0.mk (hbox); have n3_ := Aside0.mk ((by rw [hg]; exact (below_size (W1 HB.out GE159.out)) : w.heap.size ≤ gb160)); have n4_ := Aside0.mk ((by rw [hg]; exact (below_size (W1 HB.out GE159.out)) : w.heap.size ≤ gb160)); have n5_ := Aside0.mk ((by rw [hg]; exact Nat.ne_of_lt (blk_lt (g := gb159) (Bq BK159.out)) : gb159 ≠ gb160)); have n6_ := Aside0.mk ((by rw [hg]; exact Nat.ne_of_gt (blk_lt (g := gb159) (Bq BK159.out)) : gb160 ≠ gb159)); clear BK159; clear HB; have BK159 := n0_; have HB := n1_; have BK160 := n2_; have GW160 := n3_; have GE160 := n4_; have NB159_160 := n5_; have NB160_159 := n6_; clear n0_ n1_ n2_ n3_ n4_ n5_ n6_; clear hb hbox hg; have hnb20 := NB159_160.out; have hnc20 := NB160_159.out; have hcz21_0 : w19.cell? ⟨gb159, 0, none⟩ = some (.slice A0_0 l0_0.length c0_0) := (blk_cell BK159.out 0).trans rfl; have hcz21_1 : w19.cell? ⟨gb159, 1, none⟩ = some (.slice A0_1 l0_1.length c0_1) := (blk_cell BK159.out 1).trans rfl; have hcz21_2 : w19.cell? ⟨gb159, 2, none⟩ = some (.slice A0_2 l0_2.length c0_2) := (blk_cell BK159.out 2).trans rfl; have hfz21_0 := blk_frozen BK159.out 0; have hfz21_1 := blk_frozen BK159.out 1; have hfz21_2 := blk_frozen BK159.out 2; have hcz22_0 : w19.cell? ⟨gb160, 0, none⟩ = some (.slice A1_0 l1_0.length c1_0) := (blk_cell BK160.out 0).trans rfl; have hcz22_1 : w19.cell? ⟨gb160, 1, none⟩ = some (.slice A1_1 l1_1.length c1_1) := (blk_cell BK160.out 1).trans rfl; have hcz22_2 : w19.cell? ⟨gb160, 2, none⟩ = some (.slice A1_2 l1_2.length c1_2) := (blk_cell BK160.out 2).trans rfl; have hfz22_0 := blk_frozen BK160.out 0; have hfz22_1 := blk_frozen BK160.out 1; have hfz22_2 := blk_frozen BK160.out 2) | ((with_reducible refine gate_callee (f := 31) rfl ?_); refine goesL_ (some 9) rfl rfl Tryd.func31 (by kernel_rfl) rfl #[.slice A0_0 l0_0.length c0_0, .slice A1_0 l1_0.length c1_0] rfl (by (try simp only [List.map_toArray, List.map_cons, List.map_nil]); first | done | rfl | (simp only [List.length_drop, List.length_take]; rfl) | (simp; done)) ?_; (with_reducible refine (depotref00_SameLists.calls k _ _ l0_0 _ _ l1_0 false _ ?side1 ?side2 ?side3 ?side4 A3.out).mono ?_); (case side1 => exact Cq HR0_0.out HB.out); (case side2 => exact HC0_0.out); (case side3 => exact Cq HR1_0.out HB.out); (case side4 => exact HC1_0.out); rintro e w' ⟨rfl, ⟨nd, rfl⟩⟩; refine ⟨_, rfl, ?_⟩))
  go_ret
  exact ⟨by first | rfl | (simp [errW_none, errW_some] <;> rfl) | (simp [*, errW_none, errW_some] <;> rfl) | (simp [errW_none, errW_some, Go.Proofs.YtmocooihkobdjaaDoor.listNe]; done), by repeat (first | (with_reducible first | exact HB.out | apply below_alloc | apply pw_below_drewN | apply below_drew1 | refine below_set ?_ GE159.out | refine below_set ?_ GE160.out) | exact HB.out)⟩
end Go.Proofs.YtmocooihkobdjaaDoor.G
end
section
namespace Go.Proofs.YtmocooihkobdjaaDoor.G
open Go.RowKit Go.Proofs.YtmocooihkobdjaaDoorW.PrintWords Go.Proofs.YtmocooihkobdjaaDoorW.PrintLast Go.Proofs.YtmocooihkobdjaaDoorW.PrintMore
attribute [local go_sem] max2_int min2_int max_two min_two max_three min_three max_four min_four
set_option linter.unusedVariables false
set_option linter.unusedSimpArgs false
def relation_text.f (a0_0 : ByteArray) (a0_1 : Int) (a0_2 : ByteArray) : Option (ByteArray) := if a0_1 = 0 then (some a0_0) else (if a0_0.size + 2 ≤ 9223372036854775807 then ((relation_word.f a0_1).bind fun t165 => (if (a0_0 ++ (⟨#[32, 40]⟩ : ByteArray)).size + t165.size ≤ 9223372036854775807 then (if ((a0_0 ++ (⟨#[32, 40]⟩ : ByteArray)) ++ t165).size + 1 ≤ 9223372036854775807 then (if (((a0_0 ++ (⟨#[32, 40]⟩ : ByteArray)) ++ t165) ++ (⟨#[32]⟩ : ByteArray)).size + a0_2.size ≤ 9223372036854775807 then (if ((((a0_0 ++ (⟨#[32, 40]⟩ : ByteArray)) ++ t165) ++ (⟨#[32]⟩ : ByteArray)) ++ a0_2).size + 1 ≤ 9223372036854775807 then (some (((((a0_0 ++ (⟨#[32, 40]⟩ : ByteArray)) ++ t165) ++ (⟨#[32]⟩ : ByteArray)) ++ a0_2) ++ (⟨#[41]⟩ : ByteArray))) else (none)) else (none)) else (none)) else (none))) else (none))
def relation_text.T3 : Bool × List (List Nat × List Nat) := (true, [([], []), ([0], [0]), ([1], [1]), ([], []), ([3], [3]), ([4], [4]), ([2, 5], [2, 5]), ([6], [6]), ([], []), ([8], [8]), ([7, 9], [7, 9]), ([10], [10]), ([11, 5, 0, 1, 2, 3, 4, 5, 6, 7, 8, 9, 10, 11], [11])])
def relation_text.B3 : List Nat := [0, 1, 3, 0, 8, 24, 63, 127, 0, 256, 1023, 2047, 4095]
theorem relation_text.tab3 : rtab .any (opsOf Tryd.f77 3) = relation_text.T3 := by kernel_rfl
theorem relation_text.bits3 : waitsOk relation_text.T3.2 relation_text.B3 = true := by kernel_rfl
set_option maxHeartbeats 8000000 in
set_option maxRecDepth 100000 in
theorem relation_text.calls (a0_0 : ByteArray) (a0_1 : Int) (a0_2 : ByteArray) (r : ByteArray) (w : World) (hG : GG w) (h : relation_text.f a0_0 a0_1 a0_2 = some r) :
  Calls Tryd.prog 77 #[.agg #[.string a0_0, .int .i64 a0_1, .string a0_2]] w fun e w' => e = .returned (.string r) ∧ Below w.heap.size w w' := by
 have hu46 := Tryd.underlying46
 have HB := Aside0.mk (Below.refl w.heap.size w)
 have HG := Aside0.mk hG
 clear hG
 have H : (if a0_1 = 0 then (some a0_0) else (if a0_0.size + 2 ≤ 9223372036854775807 then ((relation_word.f a0_1).bind fun t165 => (if (a0_0 ++ (⟨#[32, 40]⟩ : ByteArray)).size + t165.size ≤ 9223372036854775807 then (if ((a0_0 ++ (⟨#[32, 40]⟩ : ByteArray)) ++ t165).size + 1 ≤ 9223372036854775807 then (if (((a0_0 ++ (⟨#[32, 40]⟩ : ByteArray)) ++ t165) ++ (⟨#[32]⟩ : ByteArray)).size + a0_2.size ≤ 9223372036854775807 then (if ((((a0_0 ++ (⟨#[32, 40]⟩ : ByteArray)) ++ t165) ++ (⟨#[32]⟩ : ByteArray)) ++ a0_2).size + 1 ≤ 9223372036854775807 then (some (((((a0_0 ++ (⟨#[32, 40]⟩ : ByteArray)) ++ t165) ++ (⟨#[32]⟩ : ByteArray)) ++ a0_2) ++ (⟨#[41]⟩ : ByteArray))) else (none)) else (none)) else (none)) else (none))) else (none))) = some r := h
 clear h
 by_cases c2 : a0_1 = 0
 ·rw [if_pos c2] at H
  have c2b0 : (a0_1 == 0) = true := beq_iff_eq.mpr c2
  have c2b1 : (a0_1 != 0) = false := bne_eq_false_iff_eq.mpr c2
  clear c2
  obtain rfl := Option.some.inj H
  go_enter Tryd.func77, Tryd.ntmps77
  go_wp2_with (first | ((with_reducible refine gate_dst (N := 1) rfl ?_); refine box_event ?hg (N := 1) ?hd (cs := #[.string a0_0, .int .i64 a0_1, .string a0_2]) (t := 46) ?hr ?_; (case hd => rfl); (case hg => rfl); (case hr => first | (go_simp; done) | (go_simp; rfl)); intro gb164 hg w3 hbox hb; have n0_ := Aside0.mk (below_step (W0 HB.out) hb); have n1_ := Aside0.mk (hbox); have n2_ := Aside0.mk ((by rw [hg]; exact (below_size (W0 HB.out)) : w.heap.size ≤ gb164)); have n3_ := Aside0.mk ((by rw [hg]; exact (below_size (W0 HB.out)) : w.heap.size ≤ gb164)); clear HB; have HB := n0_; have BK164 := n1_; have GW164 := n2_; have GE164 := n3_; clear n0_ n1_ n2_ n3_; clear hb hbox hg; have hcz4_0 : w3.cell? ⟨gb164, 0, none⟩ = some (.string a0_0) := (blk_cell BK164.out 0).trans rfl; have hcz4_1 : w3.cell? ⟨gb164, 1, none⟩ = some (.int .i64 a0_1) := (blk_cell BK164.out 1).trans rfl; have hcz4_2 : w3.cell? ⟨gb164, 2, none⟩ = some (.string a0_2) := (blk_cell BK164.out 2).trans rfl; have hfz4_0 := blk_frozen BK164.out 0; have hfz4_1 := blk_frozen BK164.out 1; have hfz4_2 := blk_frozen BK164.out 2))
  go_ret
  exact ⟨by first | rfl | (simp [errW_none, errW_some] <;> rfl) | (simp [*, errW_none, errW_some] <;> rfl) | (simp [errW_none, errW_some, Go.Proofs.YtmocooihkobdjaaDoor.listNe]; done), by repeat (first | (with_reducible first | exact HB.out | apply below_alloc | apply pw_below_drewN | apply below_drew1 | refine below_set ?_ GE164.out) | exact HB.out)⟩
 ·rw [if_neg c2] at H
  have c2b0 : (a0_1 == 0) = false := beq_eq_false_iff_ne.mpr c2
  have c2b1 : (a0_1 != 0) = true := bne_iff_ne.mpr c2
  by_cases c5 : a0_0.size + 2 ≤ 9223372036854775807
  ·rw [if_pos c5] at H
   have c5b0 := eq_true c5
   have c5b1 : decide (a0_0.size + 2 ≤ 9223372036854775807) = true := decide_eq_true c5
   try have c5b2 : (9223372036854775807 < a0_0.size + 2) = False := eq_false (Nat.not_lt.2 c5)
   try (have c5b3 := c5b2; simp only [ByteArray.size_append', ByteArray.size_mk', List.size_toArray, List.length_cons, List.length_nil, Nat.reduceAdd] at c5b3)
   replace H := Option.bind_eq_some_iff.mp H
   obtain ⟨t165, A60, H⟩ := H
   replace H : (if (a0_0 ++ (⟨#[32, 40]⟩ : ByteArray)).size + t165.size ≤ 9223372036854775807 then (if ((a0_0 ++ (⟨#[32, 40]⟩ : ByteArray)) ++ t165).size + 1 ≤ 9223372036854775807 then (if (((a0_0 ++ (⟨#[32, 40]⟩ : ByteArray)) ++ t165) ++ (⟨#[32]⟩ : ByteArray)).size + a0_2.size ≤ 9223372036854775807 then (if ((((a0_0 ++ (⟨#[32, 40]⟩ : ByteArray)) ++ t165) ++ (⟨#[32]⟩ : ByteArray)) ++ a0_2).size + 1 ≤ 9223372036854775807 then (some (((((a0_0 ++ (⟨#[32, 40]⟩ : ByteArray)) ++ t165) ++ (⟨#[32]⟩ : ByteArray)) ++ a0_2) ++ (⟨#[41]⟩ : ByteArray))) else (none)) else (none)) else (none)) else (none)) = some r := H
   have A6 := Aside0.mk A60
   clear A60
   by_cases c7 : (a0_0 ++ (⟨#[32, 40]⟩ : ByteArray)).size + t165.size ≤ 9223372036854775807
   ·rw [if_pos c7] at H
    have c7b0 := eq_true c7
    have c7b1 : decide ((a0_0 ++ (⟨#[32, 40]⟩ : ByteArray)).size + t165.size ≤ 9223372036854775807) = true := decide_eq_true c7
    try have c7b2 : (9223372036854775807 < (a0_0 ++ (⟨#[32, 40]⟩ : ByteArray)).size + t165.size) = False := eq_false (Nat.not_lt.2 c7)
    try (have c7b3 := c7b2; simp only [ByteArray.size_append', ByteArray.size_mk', List.size_toArray, List.length_cons, List.length_nil, Nat.reduceAdd] at c7b3)
    by_cases c8 : ((a0_0 ++ (⟨#[32, 40]⟩ : ByteArray)) ++ t165).size + 1 ≤ 9223372036854775807
    ·rw [if_pos c8] at H
     have c8b0 := eq_true c8
     have c8b1 : decide (((a0_0 ++ (⟨#[32, 40]⟩ : ByteArray)) ++ t165).size + 1 ≤ 9223372036854775807) = true := decide_eq_true c8
     try have c8b2 : (9223372036854775807 < ((a0_0 ++ (⟨#[32, 40]⟩ : ByteArray)) ++ t165).size + 1) = False := eq_false (Nat.not_lt.2 c8)
     try (have c8b3 := c8b2; simp only [ByteArray.size_append', ByteArray.size_mk', List.size_toArray, List.length_cons, List.length_nil, Nat.reduceAdd] at c8b3)
     by_cases c9 : (((a0_0 ++ (⟨#[32, 40]⟩ : ByteArray)) ++ t165) ++ (⟨#[32]⟩ : ByteArray)).size + a0_2.size ≤ 9223372036854775807
     ·rw [if_pos c9] at H
      have c9b0 := eq_true c9
      have c9b1 : decide ((((a0_0 ++ (⟨#[32, 40]⟩ : ByteArray)) ++ t165) ++ (⟨#[32]⟩ : ByteArray)).size + a0_2.size ≤ 9223372036854775807) = true := decide_eq_true c9
      try have c9b2 : (9223372036854775807 < (((a0_0 ++ (⟨#[32, 40]⟩ : ByteArray)) ++ t165) ++ (⟨#[32]⟩ : ByteArray)).size + a0_2.size) = False := eq_false (Nat.not_lt.2 c9)
      try (have c9b3 := c9b2; simp only [ByteArray.size_append', ByteArray.size_mk', List.size_toArray, List.length_cons, List.length_nil, Nat.reduceAdd] at c9b3)
      by_cases c10 : ((((a0_0 ++ (⟨#[32, 40]⟩ : ByteArray)) ++ t165) ++ (⟨#[32]⟩ : ByteArray)) ++ a0_2).size + 1 ≤ 9223372036854775807
      ·rw [if_pos c10] at H
       have c10b0 := eq_true c10
       have c10b1 : decide (((((a0_0 ++ (⟨#[32, 40]⟩ : ByteArray)) ++ t165) ++ (⟨#[32]⟩ : ByteArray)) ++ a0_2).size + 1 ≤ 9223372036854775807) = true := decide_eq_true c10
       try have c10b2 : (9223372036854775807 < ((((a0_0 ++ (⟨#[32, 40]⟩ : ByteArray)) ++ t165) ++ (⟨#[32]⟩ : ByteArray)) ++ a0_2).size + 1) = False := eq_false (Nat.not_lt.2 c10)
       try (have c10b3 := c10b2; simp only [ByteArray.size_append', ByteArray.size_mk', List.size_toArray, List.length_cons, List.length_nil, Nat.reduceAdd] at c10b3)
       obtain rfl := Option.some.inj H
       go_enter Tryd.func77, Tryd.ntmps77
       try go_wp2_with (first | ((with_reducible refine gate_dst (N := 1) rfl ?_); refine box_event ?hg (N := 1) ?hd (cs := #[.string a0_0, .int .i64 a0_1, .string a0_2]) (t := 46) ?hr ?_; (case hd => rfl); (case hg => rfl); (case hr => first | (go_simp; done) | (go_simp; rfl)); intro gb164 hg w11 hbox hb; have n0_ := Aside0.mk (below_step (W0 HB.out) hb); have n1_ := Aside0.mk (hbox); have n2_ := Aside0.mk ((by rw [hg]; exact (below_size (W0 HB.out)) : w.heap.size ≤ gb164)); have n3_ := Aside0.mk ((by rw [hg]; exact (below_size (W0 HB.out)) : w.heap.size ≤ gb164)); clear HB; have HB := n0_; have BK164 := n1_; have GW164 := n2_; have GE164 := n3_; clear n0_ n1_ n2_ n3_; clear hb hbox hg; have hcz12_0 : w11.cell? ⟨gb164, 0, none⟩ = some (.string a0_0) := (blk_cell BK164.out 0).trans rfl; have hcz12_1 : w11.cell? ⟨gb164, 1, none⟩ = some (.int .i64 a0_1) := (blk_cell BK164.out 1).trans rfl; have hcz12_2 : w11.cell? ⟨gb164, 2, none⟩ = some (.string a0_2) := (blk_cell BK164.out 2).trans rfl; have hfz12_0 := blk_frozen BK164.out 0; have hfz12_1 := blk_frozen BK164.out 1; have hfz12_2 := blk_frozen BK164.out 2))
       have n0_ := Aside0.mk (blk_drew BK164.out)
       have n1_ := Aside0.mk (below_drew1 HB.out)
       clear BK164
       clear HB
       have BK164 := n0_
       have HB := n1_
       clear n0_ n1_
       refine start_ (n := 13) (S := fun w' => w'.cell? ⟨gb164, 0, none⟩ = some (.string a0_0) ∧ w'.cell? ⟨gb164, 1, none⟩ = some (.int .i64 a0_1) ∧ w'.cell? ⟨gb164, 2, none⟩ = some (.string a0_2)) (ds := []) #[false, false, false, false, false, false, false, false, false, false, false, false, false] (by kernel_rfl) rfl rfl ⟨(blk_cell BK164.out 0).trans rfl, (blk_cell BK164.out 1).trans rfl, (blk_cell BK164.out 2).trans rfl⟩ (fun hHeld => ?_); refine with_tabW relation_text.tab3 relation_text.bits3 (fun HT_ HW_ => ?_)
       generalize w11.drew = w13 at BK164 HB hHeld ⊢
       refine pure_ (i := 0) (N := some 8) (v := ?_) (a' := ?_) #[true, false, false, false, false, false, false, false, false, false, false, false, false] rfl rfl (any_of HT_.out (by kernel_rfl)) (fun _ _ _ h => h) (Or.inl ⟨by rfl, ?_⟩) ?_ ?_
       rotate_left
       ·intro w'
        go_simp
        with_reducible rfl
       rotate_left
       ·simp only [Act.put, List.setIfInBounds_toArray, List.set_cons_zero, List.set_cons_succ, i64_w, i32_w]
        rfl
       refine pure_ (i := 3) (N := some 11) (v := ?_) (a' := ?_) #[true, false, false, true, false, false, false, false, false, false, false, false, false] rfl rfl (any_of HT_.out (by kernel_rfl)) (fun _ _ _ h => h) (Or.inl ⟨by rfl, ?_⟩) ?_ ?_
       rotate_left
       ·intro w'
        go_simp
        with_reducible rfl
       rotate_left
       ·simp only [Act.put, List.setIfInBounds_toArray, List.set_cons_zero, List.set_cons_succ, i64_w, i32_w]
        rfl
       refine pure_ (i := 8) (N := some 16) (v := ?_) (a' := ?_) #[true, false, false, true, false, false, false, false, true, false, false, false, false] rfl rfl (any_of HT_.out (by kernel_rfl)) (fun _ _ _ h => h) (Or.inl ⟨by rfl, ?_⟩) ?_ ?_
       rotate_left
       ·intro w'
        go_simp
        with_reducible rfl
       rotate_left
       ·simp only [Act.put, List.setIfInBounds_toArray, List.set_cons_zero, List.set_cons_succ, i64_w, i32_w]
        rfl
       refine take_ (i := 1) (N := some 9) (v := ?_) (a' := ?_) #[true, true, false, true, false, false, false, false, true, false, false, false, false] rfl rfl (take_ofW HT_.out HW_.out (by kernel_rfl)) (fun _ _ _ h => h) (Or.inl ⟨by rfl, ?_⟩) hHeld ?_ ?_
       rotate_left
       ·rintro w' ⟨s0, s1, s2⟩
        go_simp
        with_reducible rfl
       rotate_left
       ·simp only [Act.put, List.setIfInBounds_toArray, List.set_cons_zero, List.set_cons_succ, i64_w, i32_w]
        rfl
       refine pure_ (i := 2) (N := some 10) (v := ?_) (a' := ?_) #[true, true, true, true, false, false, false, false, true, false, false, false, false] rfl rfl (any_of HT_.out (by kernel_rfl)) (fun _ _ _ h => h) (Or.inl ⟨by rfl, ?_⟩) ?_ ?_
       rotate_left
       ·intro w'
        go_simp
        with_reducible rfl
       rotate_left
       ·simp only [Act.put, List.setIfInBounds_toArray, List.set_cons_zero, List.set_cons_succ, i64_w, i32_w]
        rfl
       refine take_ (i := 4) (N := some 12) (v := ?_) (a' := ?_) #[true, true, true, true, true, false, false, false, true, false, false, false, false] rfl rfl (take_ofW HT_.out HW_.out (by kernel_rfl)) (fun _ _ _ h => h) (Or.inl ⟨by rfl, ?_⟩) hHeld ?_ ?_
       rotate_left
       ·rintro w' ⟨s0, s1, s2⟩
        go_simp
        with_reducible rfl
       rotate_left
       ·simp only [Act.put, List.setIfInBounds_toArray, List.set_cons_zero, List.set_cons_succ, i64_w, i32_w]
        rfl
       refine take_ (i := 9) (N := some 17) (v := ?_) (a' := ?_) #[true, true, true, true, true, false, false, false, true, true, false, false, false] rfl rfl (take_ofW HT_.out HW_.out (by kernel_rfl)) (fun _ _ _ h => h) (Or.inl ⟨by rfl, ?_⟩) hHeld ?_ ?_
       rotate_left
       ·rintro w' ⟨s0, s1, s2⟩
        go_simp
        with_reducible rfl
       rotate_left
       ·simp only [Act.put, List.setIfInBounds_toArray, List.set_cons_zero, List.set_cons_succ, i64_w, i32_w]
        rfl
       refine one_ (i := 5) (N := some 13) #[true, true, true, true, true, true, false, false, true, true, false, false, false] rfl rfl (one_of HT_.out (by kernel_rfl)) (by decide) (fun K hK => ?_)
       refine goes_ Tryd.func49 (by kernel_rfl) rfl #[.int .i64 a0_1] (by rfl) rfl rfl (by (try simp only [List.map_toArray, List.map_cons, List.map_nil]); first | done | rfl | (simp only [List.length_drop, List.length_take]; rfl) | (simp; done)) ?_
       with_reducible refine (relation_word.calls a0_1 t165 _ ?side1 A6.out).mono ?_
       (case side1 => exact GG.below HG.out (W1 HB.out GE164.out))
       rintro e w14 ⟨rfl, hb⟩
       refine ⟨_, rfl, ?_⟩
       have n0_ := Aside0.mk (blk_below (g := gb164) (Bq BK164.out) hb)
       have n1_ := Aside0.mk (below_step (W1 HB.out GE164.out) hb)
       clear BK164
       clear HB
       have BK164 := n0_
       have HB := n1_
       clear n0_ n1_
       (try clear hb)
       (try clear hb2)
       (try clear hk)
       (try clear hi)
       refine hK.out _ _ ⟨(blk_cell BK164.out 0).trans rfl, (blk_cell BK164.out 1).trans rfl, (blk_cell BK164.out 2).trans rfl⟩ (fun hHeld => ?_)
       clear hK K
       refine norm_ (a' := ?_) ?_ ?_
       rotate_left
       ·show Act.put _ (some 13) _ = _
        simp only [Act.put, List.setIfInBounds_toArray, List.set_cons_zero, List.set_cons_succ, i64_w, i32_w]
        rfl
       refine pure_ (i := 6) (N := some 14) (v := ?_) (a' := ?_) #[true, true, true, true, true, true, true, false, true, true, false, false, false] rfl rfl (any_of HT_.out (by kernel_rfl)) (fun _ _ _ h => h) (Or.inl ⟨by rfl, ?_⟩) ?_ ?_
       rotate_left
       ·intro w'
        go_simp
        with_reducible rfl
       rotate_left
       ·simp only [Act.put, List.setIfInBounds_toArray, List.set_cons_zero, List.set_cons_succ, i64_w, i32_w]
        rfl
       refine pure_ (i := 7) (N := some 15) (v := ?_) (a' := ?_) #[true, true, true, true, true, true, true, true, true, true, false, false, false] rfl rfl (any_of HT_.out (by kernel_rfl)) (fun _ _ _ h => h) (Or.inl ⟨by rfl, ?_⟩) ?_ ?_
       rotate_left
       ·intro w'
        go_simp
        with_reducible rfl
       rotate_left
       ·simp only [Act.put, List.setIfInBounds_toArray, List.set_cons_zero, List.set_cons_succ, i64_w, i32_w]
        rfl
       refine pure_ (i := 10) (N := some 18) (v := ?_) (a' := ?_) #[true, true, true, true, true, true, true, true, true, true, true, false, false] rfl rfl (any_of HT_.out (by kernel_rfl)) (fun _ _ _ h => h) (Or.inl ⟨by rfl, ?_⟩) ?_ ?_
       rotate_left
       ·intro w'
        go_simp
        with_reducible rfl
       rotate_left
       ·simp only [Act.put, List.setIfInBounds_toArray, List.set_cons_zero, List.set_cons_succ, i64_w, i32_w]
        rfl
       refine pure_ (i := 11) (N := some 19) (v := ?_) (a' := ?_) #[true, true, true, true, true, true, true, true, true, true, true, true, false] rfl rfl (any_of HT_.out (by kernel_rfl)) (fun _ _ _ h => h) (Or.inl ⟨by rfl, ?_⟩) ?_ ?_
       rotate_left
       ·intro w'
        go_simp
        with_reducible rfl
       rotate_left
       ·simp only [Act.put, List.setIfInBounds_toArray, List.set_cons_zero, List.set_cons_succ, i64_w, i32_w]
        rfl
       refine pure_ (i := 12) (N := some 2) (v := ?_) (a' := ?_) #[true, true, true, true, true, true, true, true, true, true, true, true, true] rfl rfl (any_of HT_.out (by kernel_rfl)) (fun _ _ _ h => h) (Or.inl ⟨by rfl, ?_⟩) ?_ ?_
       rotate_left
       ·intro w'
        go_simp
        with_reducible rfl
       rotate_left
       ·simp only [Act.put, List.setIfInBounds_toArray, List.set_cons_zero, List.set_cons_succ, i64_w, i32_w]
        rfl
       refine done_ (done_of HT_.out (by kernel_rfl)) ?_
       try go_wp2
       go_ret
       exact ⟨by first | rfl | (simp [errW_none, errW_some] <;> rfl) | (simp [*, errW_none, errW_some] <;> rfl) | (simp [errW_none, errW_some, Go.Proofs.YtmocooihkobdjaaDoor.listNe]; done), by repeat (first | (with_reducible first | exact HB.out | apply below_alloc | apply pw_below_drewN | apply below_drew1 | refine below_set ?_ GE164.out) | exact HB.out)⟩
      ·rw [if_neg c10] at H
       exact absurd H (by simp)
     ·rw [if_neg c9] at H
      exact absurd H (by simp)
    ·rw [if_neg c8] at H
     exact absurd H (by simp)
   ·rw [if_neg c7] at H
    exact absurd H (by simp)
  ·rw [if_neg c5] at H
   exact absurd H (by simp)
end Go.Proofs.YtmocooihkobdjaaDoor.G
end
section
namespace Go.Proofs.YtmocooihkobdjaaDoor.G
open Go.RowKit Go.Proofs.YtmocooihkobdjaaDoorW.PrintWords Go.Proofs.YtmocooihkobdjaaDoorW.PrintLast Go.Proofs.YtmocooihkobdjaaDoorW.PrintMore
attribute [local go_sem] max2_int min2_int max_two min_two max_three min_three max_four min_four
set_option linter.unusedVariables false
set_option linter.unusedSimpArgs false
def joinB (l : List ByteArray) (sep : ByteArray) : ByteArray := ⟨(Lib.join (l.map (·.data.toList)) sep.data.toList).toArray⟩
def strings_Join.f (l0 : List ByteArray) (a1 : ByteArray) : Option (ByteArray) := if l0.length ≤ 140737488355328 ∧ (joinB l0 a1).size ≤ 140737488355328 then some (joinB l0 a1) else none
theorem strings_Join.calls (A0 : Option Addr) (c0 : Nat) (l0 : List ByteArray) (a1 : ByteArray) (r : ByteArray) (w : World) (hr0 : Kd.C Kd.string w A0 l0.length l0) (hc0 : l0.length ≤ c0) (h : strings_Join.f l0 a1 = some r) :
    Calls Tryd.prog 78 #[.slice A0 l0.length c0, .string a1] w fun e w' => e = .returned (.string r) ∧ Below w.heap.size w w' := by
  unfold strings_Join.f at h
  split at h
  case isFalse => cases h
  case isTrue hz =>
    obtain rfl := Option.some.inj h
    cases l0 with
    | nil =>
      exact (Tryd.strings_Join_none A0 c0 a1 w).mono fun e w' ⟨he, hw⟩ => ⟨he, hw ▸ Below.refl _ _⟩
    | cons x xs =>
      obtain ⟨ad, rfl, hc⟩ := hr0.2.2 (by simp)
      have hcell : ∀ (j : Nat) y, (x :: xs)[j]? = some y → w.cell? (ad.add j) = some (.string y) := by
        intro j y hj
        obtain ⟨c, _, rfl, hu⟩ := hc j y hj
        have := hu 0 (.string y) rfl
        rw [show j * Kd.string.sz + 0 = j from Nat.mul_one j] at this
        exact this
      obtain ⟨b, o, sp⟩ := ad
      have h0 := hcell 0 x rfl
      have hsp : sp = none := by
        cases sp with
        | none => rfl
        | some q =>
          rw [show (⟨b, o, some q⟩ : Addr).add 0 = ⟨b, o, some q⟩ from rfl] at h0
          unfold World.cell? at h0
          split at h0 <;> simp at h0
      subst hsp
      have hadd : ∀ j, (⟨b, o, none⟩ : Addr).add j = ⟨b, o + j, none⟩ := by
        intro j
        unfold Addr.add
        split
        · rename_i h; subst h; rfl
        · rfl
      have hb : b < w.heap.size := World.block_lt_of_cell? w ⟨b, o, none⟩ (by rw [hadd 0] at h0; exact h0)
      exact Tryd.strings_Join b o c0 (x :: xs) a1 w (fun j y hj => by rw [← hadd]; exact hcell j y hj) hb hz.1 hc0 (by
        have h2 := hz.2
        have e2 : (joinB (x :: xs) a1).size = (Lib.join ((x :: xs).map (·.data.toList)) a1.data.toList).length := by
          unfold joinB
          simp [ByteArray.size]
        omega)
end Go.Proofs.YtmocooihkobdjaaDoor.G
end
section
namespace Go.Proofs.YtmocooihkobdjaaDoor.G
open Go.RowKit Go.Proofs.YtmocooihkobdjaaDoorW.PrintWords Go.Proofs.YtmocooihkobdjaaDoorW.PrintLast Go.Proofs.YtmocooihkobdjaaDoorW.PrintMore
attribute [local go_sem] max2_int min2_int max_two min_two max_three min_three max_four min_four
set_option linter.unusedVariables false
set_option linter.unusedSimpArgs false
mutual
def relation_Write.l0 : Nat → List ByteArray → List (List (S46)) → Int → Int → Option (ByteArray × Int)
 | 0, _, _, _, _ => none
 | k + 1, x4, x10, x11, x12 => if x12 < x11 then (if 0 ≤ x12 then (if x12 < (x10.length : Int) then (relation_Write.l1 k x4 ([] : List ByteArray) x10 x11 x12 (rd_L3 x10 x12) ((rd_L3 x10 x12).length : Int) 0) else (none)) else (none)) else ((strings_Join.f x4 (⟨#[44, 32]⟩ : ByteArray)).bind fun t166 => (some (t166, 0)))
def relation_Write.l1 : Nat → List ByteArray → List ByteArray → List (List (S46)) → Int → Int → List (S46) → Int → Int → Option (ByteArray × Int)
 | 0, _, _, _, _, _, _, _, _ => none
 | k + 1, x4, x7, x10, x11, x12, x16, x17, x18 => if x18 < x17 then (if 0 ≤ x18 then (if x18 < (x16.length : Int) then ((relation_Formed.f k ((rd_T46 x16 x18).f0) ((rd_T46 x16 x18).f1) ((rd_T46 x16 x18).f2)).bind fun t174 => (if t174 = true then ((relation_text.f ((rd_T46 x16 x18).f0) ((rd_T46 x16 x18).f1) ((rd_T46 x16 x18).f2)).bind fun t175 => (if x7.length < 8796093022208 then (relation_Write.l1 k x4 (x7 ++ [t175]) x10 x11 x12 x16 x17 (wrap64 (x18 + 1))) else (none))) else (some ((⟨#[]⟩ : ByteArray), 1)))) else (none)) else (none)) else (if (x7.length : Int) = 0 then (some ((⟨#[]⟩ : ByteArray), 1)) else ((strings_Join.f x7 (⟨#[32, 124, 32]⟩ : ByteArray)).bind fun t168 => (if x4.length < 8796093022208 then (relation_Write.l0 k (x4 ++ [t168]) x10 x11 (wrap64 (x12 + 1))) else (none))))
end
def relation_Write.f (k : Nat) (l0 : List (List (S46))) : Option (ByteArray × Int) := relation_Write.l0 k ([] : List ByteArray) l0 (l0.length : Int) 0
theorem relation_Write.mono_l : ∀ k, (∀ y0 y1 y2 y3, LeO (relation_Write.l0 k y0 y1 y2 y3) (relation_Write.l0 (k + 1) y0 y1 y2 y3)) ∧ (∀ y0 y1 y2 y3 y4 y5 y6 y7, LeO (relation_Write.l1 k y0 y1 y2 y3 y4 y5 y6 y7) (relation_Write.l1 (k + 1) y0 y1 y2 y3 y4 y5 y6 y7))
 | 0 => ⟨fun _ _ _ _ r h => by simp [relation_Write.l0] at h, fun _ _ _ _ _ _ _ _ r h => by simp [relation_Write.l1] at h⟩
 | k + 1 => by
  obtain ⟨ih0, ih1⟩ := relation_Write.mono_l k
  refine ⟨?_, ?_⟩
  ·intro y0 y1 y2 y3
   unfold relation_Write.l0
   repeat' first
   | (with_reducible exact ih0 _ _ _ _)
   | (with_reducible exact ih1 _ _ _ _ _ _ _ _)
   | (with_reducible exact relation_Formed.mono _ _ _ _)
   | (with_reducible exact LeO.refl _)
   | (with_reducible exact LeO.none _)
   | (with_reducible refine LeO.ite ?_ ?_)
   | (with_reducible refine LeO.bind ?_ (fun _ => ?_))
   | exact ih0 _ _ _ _
   | exact ih1 _ _ _ _ _ _ _ _
   | exact relation_Formed.mono _ _ _ _
   | exact LeO.none _
   | refine LeO.ite ?_ ?_
   | refine LeO.bind ?_ (fun _ => ?_)
  ·intro y0 y1 y2 y3 y4 y5 y6 y7
   unfold relation_Write.l1
   repeat' first
   | (with_reducible exact ih0 _ _ _ _)
   | (with_reducible exact ih1 _ _ _ _ _ _ _ _)
   | (with_reducible exact relation_Formed.mono _ _ _ _)
   | (with_reducible exact LeO.refl _)
   | (with_reducible exact LeO.none _)
   | (with_reducible refine LeO.ite ?_ ?_)
   | (with_reducible refine LeO.bind ?_ (fun _ => ?_))
   | exact ih0 _ _ _ _
   | exact ih1 _ _ _ _ _ _ _ _
   | exact relation_Formed.mono _ _ _ _
   | exact LeO.none _
   | refine LeO.ite ?_ ?_
   | refine LeO.bind ?_ (fun _ => ?_)
theorem relation_Write.mono : ∀ a0 k, LeO (relation_Write.f k a0) (relation_Write.f (k + 1) a0) := by
 intro a0 k
 obtain ⟨ih0, ih1⟩ := relation_Write.mono_l k
 unfold relation_Write.f
 repeat' first
   | (with_reducible exact ih0 _ _ _ _)
   | (with_reducible exact ih1 _ _ _ _ _ _ _ _)
   | (with_reducible exact relation_Formed.mono _ _ _ _)
   | (with_reducible exact LeO.refl _)
   | (with_reducible exact LeO.none _)
   | (with_reducible refine LeO.ite ?_ ?_)
   | (with_reducible refine LeO.bind ?_ (fun _ => ?_))
   | exact ih0 _ _ _ _
   | exact ih1 _ _ _ _ _ _ _ _
   | exact relation_Formed.mono _ _ _ _
   | exact LeO.none _
   | refine LeO.ite ?_ ?_
   | refine LeO.bind ?_ (fun _ => ?_)
set_option maxHeartbeats 8000000 in
set_option maxRecDepth 100000 in
theorem relation_Write.calls (k : Nat) (A0 : Option Addr) (c0 : Nat) (l0 : List (List (S46))) (r1 : ByteArray) (r2 : Int) (w : World) (hr0 : Kd.C (Kd.slice 46 k46) w A0 l0.length l0) (hc0 : l0.length ≤ c0) (hG : GG w) (h : relation_Write.f k l0 = some (r1, r2)) :
  Calls Tryd.prog 55 #[.slice A0 l0.length c0] w fun e w' => e = .returned (.tuple #[.string r1, .int .i64 r2]) ∧ Below w.heap.size w w' := by
 have hu46 := Tryd.underlying46
 have HR0 := Aside0.mk hr0
 have HC0 := Aside0.mk hc0
 clear hr0 hc0
 have HB := Aside0.mk (Below.refl w.heap.size w)
 have HG := Aside0.mk hG
 clear hG
 have H : (relation_Write.l0 k ([] : List ByteArray) l0 (l0.length : Int) 0) = some (r1, r2) := h
 clear h
 have H' := Aside0.mk H
 clear H
 go_enter Tryd.func55, Tryd.ntmps55
 go_wp2
 go_loopg [4, 12] k (fun kq v4 v12 w' => ∃ (x4_1 : List ByteArray) (x12_1 : Int), v12 = .int .i64 x12_1 ∧ Aside0 (relation_Write.l0 kq x4_1 l0 (l0.length : Int) x12_1 = some (r1, r2)) ∧ Aside0 (kq ≤ k) ∧ Aside0 (Kd.R Kd.string 9 w' w.heap.size (fun _ => True) v4 x4_1) ∧ Aside0 (Below w.heap.size w w'))
 case atStart => exact ⟨(([] : List ByteArray)), (0), (by first | rfl | (simp; done) | (simp [*]; done)), H', ⟨Nat.le_refl _⟩, ⟨by first | exact Kd.R_nil _ _ _ _ _ | exact Kd.N_nil _ _ _ _ _ | exact Kd.V_nil _ _ _ _ _ | exact Kd.Q_nil _ _ _ _ _ | exact Kd.S_nil _ _ _ _ _⟩, ⟨by repeat (first | (with_reducible first | exact HB.out | apply below_alloc | apply pw_below_drewN | apply below_drew1) | exact HB.out)⟩⟩
 case round =>
  clear H'
  obtain ⟨x4_1, x12_1, rfl, HA, HK1, HO_4, HB⟩ := hrel
  cases gk with
  | zero => exact absurd HA.out (by simp [relation_Write.l0])
  | succ k1 =>
   have H := HA.out
   clear HA
   simp only [relation_Write.l0] at H
   by_cases c2 : x12_1 < (l0.length : Int)
   ·rw [if_pos c2] at H
    have c2b0 : decide (x12_1 < (l0.length : Int)) = true := decide_eq_true c2
    clear c2
    by_cases c3 : 0 ≤ x12_1
    ·rw [if_pos c3] at H
     have c3b0 : decide (0 ≤ x12_1) = true := decide_eq_true c3
     clear c3
     by_cases c4 : x12_1 < (l0.length : Int)
     ·rw [if_pos c4] at H
      have c4b0 : decide (x12_1 < (l0.length : Int)) = true := decide_eq_true c4
      clear c4
      have H' := Aside0.mk H
      clear H
      have p167 : 0 ≤ (x12_1 : Int) := of_decide_eq_true (by first | (with_reducible assumption) | assumption)
      have q167 : x12_1 < (l0.length : Int) := of_decide_eq_true (by first | (with_reducible assumption) | assumption)
      obtain ⟨ad167, A167_0, c167_0, e167, hx167_0, hl167_0, hi167_0⟩ := at_L3 HR0.out x12_1 p167 q167
      cases e167
      replace hx167_0 := (HB.out.cell (World.block_lt_of_cell? w _ hx167_0)).trans hx167_0
      have HR167_0 := Aside0.mk hi167_0
      have HC167_0 := Aside0.mk hl167_0
      clear hi167_0 hl167_0
      replace p167 := eq_true p167
      replace q167 := eq_true q167
      go_wp2
      go_loopg [7, 18] k1 (fun kq v7 v18 w' => ∃ (x7_2 : List ByteArray) (x18_2 : Int), v18 = .int .i64 x18_2 ∧ Aside0 (relation_Write.l1 kq x4_1 x7_2 l0 (l0.length : Int) x12_1 (rd_L3 l0 x12_1) ((rd_L3 l0 x12_1).length : Int) x18_2 = some (r1, r2)) ∧ Aside0 (kq ≤ k1) ∧ Aside0 (Kd.R Kd.string 9 w' w.heap.size (fun k_ => some k_ ≠ (v7 : Value).ownBlock) u4 x4_1) ∧ Aside0 (Kd.R Kd.string 9 w' w.heap.size (fun k_ => some k_ ≠ (u4 : Value).ownBlock) v7 x7_2) ∧ Aside0 (Below w.heap.size w w'))
      case atStart => exact ⟨(([] : List ByteArray)), (0), (by first | rfl | (simp; done) | (simp [*]; done)), H', ⟨Nat.le_refl _⟩, ⟨by (with_reducible repeat (first | apply Kd.R_alloc | apply Kd.R_drewN | apply Kd.R_drew)); exact Kd.R_mono HO_4.out (fun _ hk => (by simp [Value.ownBlock]))⟩, ⟨by first | exact Kd.R_nil _ _ _ _ _ | exact Kd.N_nil _ _ _ _ _ | exact Kd.V_nil _ _ _ _ _ | exact Kd.Q_nil _ _ _ _ _ | exact Kd.S_nil _ _ _ _ _⟩, ⟨by repeat (first | (with_reducible first | exact HB.out | apply below_alloc | apply pw_below_drewN | apply below_drew1) | exact HB.out)⟩⟩
      case round =>
       clear H'
       try clear c1
       try clear p1
       try clear q1
       try clear hx1
       try clear c2
       try clear c2b0
       try clear p2
       try clear c3
       try clear c3b0
       try clear c4
       try clear c4b0
       try clear hx167_0
       try clear p167
       try clear q167
       obtain ⟨x7_2, x18_2, rfl, HA, HK2, HO_4, HO_7, HB⟩ := hrel
       cases gk with
       | zero => exact absurd HA.out (by simp [relation_Write.l1])
       | succ k2 =>
        have H := HA.out
        clear HA
        simp only [relation_Write.l1] at H
        by_cases c5 : x18_2 < ((rd_L3 l0 x12_1).length : Int)
        ·rw [if_pos c5] at H
         have c5b0 : decide (x18_2 < ((rd_L3 l0 x12_1).length : Int)) = true := decide_eq_true c5
         clear c5
         by_cases c6 : 0 ≤ x18_2
         ·rw [if_pos c6] at H
          have c6b0 : decide (0 ≤ x18_2) = true := decide_eq_true c6
          clear c6
          by_cases c7 : x18_2 < ((rd_L3 l0 x12_1).length : Int)
          ·rw [if_pos c7] at H
           have c7b0 : decide (x18_2 < ((rd_L3 l0 x12_1).length : Int)) = true := decide_eq_true c7
           clear c7
           replace H := Option.bind_eq_some_iff.mp H
           obtain ⟨t174, A80, H⟩ := H
           replace H : (if t174 = true then ((relation_text.f ((rd_T46 (rd_L3 l0 x12_1) x18_2).f0) ((rd_T46 (rd_L3 l0 x12_1) x18_2).f1) ((rd_T46 (rd_L3 l0 x12_1) x18_2).f2)).bind fun t175 => (if x7_2.length < 8796093022208 then (relation_Write.l1 k2 x4_1 (x7_2 ++ [t175]) l0 (l0.length : Int) x12_1 (rd_L3 l0 x12_1) ((rd_L3 l0 x12_1).length : Int) (wrap64 (x18_2 + 1))) else (none))) else (some ((⟨#[]⟩ : ByteArray), 1))) = some (r1, r2) := H
           have A8 := Aside0.mk A80
           clear A80
           by_cases c9 : t174 = true
           ·subst c9
            have H1 : ((relation_text.f ((rd_T46 (rd_L3 l0 x12_1) x18_2).f0) ((rd_T46 (rd_L3 l0 x12_1) x18_2).f1) ((rd_T46 (rd_L3 l0 x12_1) x18_2).f2)).bind fun t175 => (if x7_2.length < 8796093022208 then (relation_Write.l1 k2 x4_1 (x7_2 ++ [t175]) l0 (l0.length : Int) x12_1 (rd_L3 l0 x12_1) ((rd_L3 l0 x12_1).length : Int) (wrap64 (x18_2 + 1))) else (none))) = some (r1, r2) := by rw [if_pos rfl] at H; exact H
            clear H
            have H := H1
            clear H1
            replace H := Option.bind_eq_some_iff.mp H
            obtain ⟨t175, A100, H⟩ := H
            replace H : (if x7_2.length < 8796093022208 then (relation_Write.l1 k2 x4_1 (x7_2 ++ [t175]) l0 (l0.length : Int) x12_1 (rd_L3 l0 x12_1) ((rd_L3 l0 x12_1).length : Int) (wrap64 (x18_2 + 1))) else (none)) = some (r1, r2) := H
            have A10 := Aside0.mk A100
            clear A100
            by_cases c11 : x7_2.length < 8796093022208
            ·rw [if_pos c11] at H
             have LMc11 := Aside0.mk c11
             clear c11
             obtain ⟨y176, hy176⟩ : ∃ y_ : List ByteArray, y_ = (x7_2 ++ [t175]) := ⟨_, rfl⟩
             replace H : (relation_Write.l1 k2 x4_1 y176 l0 (l0.length : Int) x12_1 (rd_L3 l0 x12_1) ((rd_L3 l0 x12_1).length : Int) (wrap64 (x18_2 + 1))) = some (r1, r2) := by first | (rw [hy176]; with_reducible exact H) | (have H2_ := (Option.bind_some _ _).symm.trans H; rw [hy176]; with_reducible exact H2_) | (have H2_ := (Option.bind_some _ _).symm.trans H; with_reducible exact H2_) | with_reducible exact H | (rw [hy176]; exact H) | exact H
             have Ny176 := Aside0.mk hy176
             clear hy176
             have H' := Aside0.mk H
             clear H
             have p172 : 0 ≤ (x18_2 : Int) := of_decide_eq_true (by first | (with_reducible assumption) | assumption)
             have q172 : x18_2 < ((rd_L3 l0 x12_1).length : Int) := of_decide_eq_true (by first | (with_reducible assumption) | assumption)
             obtain ⟨ad172, e172, hx172_0, hx172_1, hx172_2⟩ := at_T46 HR167_0.out x18_2 p172 q172
             cases e172
             replace hx172_0 := (HB.out.cell (World.block_lt_of_cell? w _ hx172_0)).trans hx172_0
             replace hx172_1 := (HB.out.cell (World.block_lt_of_cell? w _ hx172_1)).trans hx172_1
             replace hx172_2 := (HB.out.cell (World.block_lt_of_cell? w _ hx172_2)).trans hx172_2
             replace p172 := eq_true p172
             replace q172 := eq_true q172
             go_wp2_with (first | ((with_reducible refine gate_dst (N := 9) rfl ?_); refine box_event ?hg (N := 9) ?hd (cs := #[.string (⟨#[]⟩ : ByteArray), .int .i64 0, .string (⟨#[]⟩ : ByteArray)]) (t := 46) ?hr ?_; (case hd => rfl); (case hg => rfl); (case hr => first | (go_simp; done) | (go_simp; rfl)); intro gb173 hg w12 hbox hb; have n0_ := Aside0.mk (Kd.R_below (Rq HO_4.out) hb); have n1_ := Aside0.mk (Kd.R_below (Rq HO_7.out) hb); have n2_ := Aside0.mk (below_step (W0 HB.out) hb); have n3_ := Aside0.mk (hbox); have n4_ := Aside0.mk ((by rw [hg]; exact (below_size (W0 HB.out)) : w.heap.size ≤ gb173)); have n5_ := Aside0.mk ((by rw [hg]; exact (below_size (W0 HB.out)) : w.heap.size ≤ gb173)); clear HO_4; clear HO_7; clear HB; have HO_4 := n0_; have HO_7 := n1_; have HB := n2_; have BK173 := n3_; have GW173 := n4_; have GE173 := n5_; clear n0_ n1_ n2_ n3_ n4_ n5_; clear hb hbox hg; have hcz13_0 : w12.cell? ⟨gb173, 0, none⟩ = some (.string (⟨#[]⟩ : ByteArray)) := (blk_cell BK173.out 0).trans rfl; have hcz13_1 : w12.cell? ⟨gb173, 1, none⟩ = some (.int .i64 0) := (blk_cell BK173.out 1).trans rfl; have hcz13_2 : w12.cell? ⟨gb173, 2, none⟩ = some (.string (⟨#[]⟩ : ByteArray)) := (blk_cell BK173.out 2).trans rfl; have hfz13_0 := blk_frozen BK173.out 0; have hfz13_1 := blk_frozen BK173.out 1; have hfz13_2 := blk_frozen BK173.out 2) | ((with_reducible refine gate_callee (f := 26) rfl ?_); refine goesL_ (some 23) rfl rfl Tryd.func26 (by kernel_rfl) rfl #[.agg #[.string ((rd_T46 (rd_L3 l0 x12_1) x18_2).f0), .int .i64 ((rd_T46 (rd_L3 l0 x12_1) x18_2).f1), .string ((rd_T46 (rd_L3 l0 x12_1) x18_2).f2)]] rfl (by (try simp only [List.map_toArray, List.map_cons, List.map_nil]); first | done | rfl | (simp only [List.length_drop, List.length_take]; rfl) | (simp; done)) ?_; (with_reducible refine (relation_Formed.calls k2 ((rd_T46 (rd_L3 l0 x12_1) x18_2).f0) ((rd_T46 (rd_L3 l0 x12_1) x18_2).f1) ((rd_T46 (rd_L3 l0 x12_1) x18_2).f2) true _ ?side1 A8.out).mono ?_); (case side1 => exact GG.below HG.out (W1 HB.out GE173.out)); rintro e w14 ⟨rfl, hb⟩; refine ⟨_, rfl, ?_⟩; have n0_ := Aside0.mk (Kd.R_below (by (with_reducible repeat (first | apply Kd.R_alloc | apply Kd.R_drewN | apply Kd.R_drew)); exact (Kd.R_mono (Kd.R_far (p := ⟨gb173, 2, none⟩) (Kd.R_far (p := ⟨gb173, 1, none⟩) (Kd.R_far (p := ⟨gb173, 0, none⟩) (Rt HO_4.out BK173.out) (fun _ hk => hk.2) (.string ((rd_T46 (rd_L3 l0 x12_1) x18_2).f0))) (fun _ hk => hk.2) (.int .i64 ((rd_T46 (rd_L3 l0 x12_1) x18_2).f1))) (fun _ hk => hk.2) (.string ((rd_T46 (rd_L3 l0 x12_1) x18_2).f2))) (fun _ h_ => h_.1))) hb); have n1_ := Aside0.mk (Kd.R_below (by (with_reducible repeat (first | apply Kd.R_alloc | apply Kd.R_drewN | apply Kd.R_drew)); exact (Kd.R_mono (Kd.R_far (p := ⟨gb173, 2, none⟩) (Kd.R_far (p := ⟨gb173, 1, none⟩) (Kd.R_far (p := ⟨gb173, 0, none⟩) (Rt HO_7.out BK173.out) (fun _ hk => hk.2) (.string ((rd_T46 (rd_L3 l0 x12_1) x18_2).f0))) (fun _ hk => hk.2) (.int .i64 ((rd_T46 (rd_L3 l0 x12_1) x18_2).f1))) (fun _ hk => hk.2) (.string ((rd_T46 (rd_L3 l0 x12_1) x18_2).f2))) (fun _ h_ => h_.1))) hb); have n2_ := Aside0.mk (blk_below (g := gb173) (o := .cells #[.string ((rd_T46 (rd_L3 l0 x12_1) x18_2).f0), .int .i64 ((rd_T46 (rd_L3 l0 x12_1) x18_2).f1), .string ((rd_T46 (rd_L3 l0 x12_1) x18_2).f2)] 46 (0, 0)) (by (with_reducible repeat (first | refine blk_drewN ?_ _ | refine blk_drew ?_ | refine blk_alloc ?_ _)); refine blk_put (cs := #[.string ((rd_T46 (rd_L3 l0 x12_1) x18_2).f0), .int .i64 ((rd_T46 (rd_L3 l0 x12_1) x18_2).f1), .string (⟨#[]⟩ : ByteArray)]) ?_ 2 _ rfl; (with_reducible repeat (first | refine blk_drewN ?_ _ | refine blk_drew ?_ | refine blk_alloc ?_ _)); refine blk_put (cs := #[.string ((rd_T46 (rd_L3 l0 x12_1) x18_2).f0), .int .i64 0, .string (⟨#[]⟩ : ByteArray)]) ?_ 1 _ rfl; (with_reducible repeat (first | refine blk_drewN ?_ _ | refine blk_drew ?_ | refine blk_alloc ?_ _)); refine blk_put (cs := #[.string (⟨#[]⟩ : ByteArray), .int .i64 0, .string (⟨#[]⟩ : ByteArray)]) ?_ 0 _ rfl; (with_reducible repeat (first | refine blk_drewN ?_ _ | refine blk_drew ?_ | refine blk_alloc ?_ _)); exact BK173.out) hb); have n3_ := Aside0.mk (below_step (W1 HB.out GE173.out) hb); clear HO_4; clear HO_7; clear BK173; clear HB; have HO_4 := n0_; have HO_7 := n1_; have BK173 := n2_; have HB := n3_; clear n0_ n1_ n2_ n3_; (try clear hb); (try clear hb2); (try clear hk); (try clear hi); have hcz15_0 : w14.cell? ⟨gb173, 0, none⟩ = some (.string ((rd_T46 (rd_L3 l0 x12_1) x18_2).f0)) := (blk_cell BK173.out 0).trans rfl; have hcz15_1 : w14.cell? ⟨gb173, 1, none⟩ = some (.int .i64 ((rd_T46 (rd_L3 l0 x12_1) x18_2).f1)) := (blk_cell BK173.out 1).trans rfl; have hcz15_2 : w14.cell? ⟨gb173, 2, none⟩ = some (.string ((rd_T46 (rd_L3 l0 x12_1) x18_2).f2)) := (blk_cell BK173.out 2).trans rfl; have hfz15_0 := blk_frozen BK173.out 0; have hfz15_1 := blk_frozen BK173.out 1; have hfz15_2 := blk_frozen BK173.out 2) | ((with_reducible refine gate_callee (f := 77) rfl ?_); refine goesL_ (some 27) rfl rfl Tryd.func77 (by kernel_rfl) rfl #[.agg #[.string ((rd_T46 (rd_L3 l0 x12_1) x18_2).f0), .int .i64 ((rd_T46 (rd_L3 l0 x12_1) x18_2).f1), .string ((rd_T46 (rd_L3 l0 x12_1) x18_2).f2)]] rfl (by (try simp only [List.map_toArray, List.map_cons, List.map_nil]); first | done | rfl | (simp only [List.length_drop, List.length_take]; rfl) | (simp; done)) ?_; (with_reducible refine (relation_text.calls ((rd_T46 (rd_L3 l0 x12_1) x18_2).f0) ((rd_T46 (rd_L3 l0 x12_1) x18_2).f1) ((rd_T46 (rd_L3 l0 x12_1) x18_2).f2) t175 _ ?side1 A10.out).mono ?_); (case side1 => exact GG.below HG.out (W1 HB.out GE173.out)); rintro e w16 ⟨rfl, hb⟩; refine ⟨_, rfl, ?_⟩; have n0_ := Aside0.mk (Kd.R_below (Rq HO_4.out) hb); have n1_ := Aside0.mk (Kd.R_below (Rq HO_7.out) hb); have n2_ := Aside0.mk (blk_below (g := gb173) (Bq BK173.out) hb); have n3_ := Aside0.mk (below_step (W1 HB.out GE173.out) hb); clear HO_4; clear HO_7; clear BK173; clear HB; have HO_4 := n0_; have HO_7 := n1_; have BK173 := n2_; have HB := n3_; clear n0_ n1_ n2_ n3_; (try clear hb); (try clear hb2); (try clear hk); (try clear hi)) | ((with_reducible refine gate_builtin (b := .append) (xs := #[.tmp 25, .tmp 28]) rfl ?_); at_builtin; refine Kd.R_append Kd.string (w0 := w) w.heap.size rfl (.tmp 25) (.tmp 28) 73 9 (.string ⟨#[]⟩) 16 rfl Tryd.underlying73 info9 rfl (by decide) (by omega) u7 x7_2 t175 [.string t175] (fun k_ => some k_ ≠ (u4 : Value).ownBlock) (fun _ => False) rfl rfl ?aP (fun _ hk => hk.elim) ?aF ?aO ?aB ?aS ?aL ?_; (case aP => exact rfl); (case aB => exact (W1 HB.out GE173.out)); (case aF => exact (fun k_ hk => Kd.fresh' (Kd.R_lt (Rq HO_4.out)) k_ hk)); (case aO => exact (Rq HO_7.out)); (case aS => exact (below_size (W1 HB.out GE173.out))); (case aL => have := LMc11.out; omega); intro v177 w17 ho hb hg hat; rw [← Ny176.out] at ho; have n0_ := Aside0.mk (Kd.R_after (ok := (fun _ => True)) (by (with_reducible repeat (first | apply Kd.R_alloc | apply Kd.R_drewN | apply Kd.R_drew)); exact Kd.R_mono HO_4.out (fun _ hk => ⟨trivial, hk⟩)) hg hat); have n1_ := Aside0.mk (blk_grown (g := gb173) (Bq BK173.out) hg (Kd.R_ne HO_7.out BK173.out (by decide))); have n2_ := Aside0.mk (hb); have n3_ := Aside0.mk (ho); clear HO_4; clear BK173; clear HB; clear HO_7; have HO_4 := n0_; have BK173 := n1_; have HB := n2_; have HO178 := n3_; clear n0_ n1_ n2_ n3_; clear ho hb hg hat))
             go_roundg k2
             case measure => have := HK1.out; have := HK2.out; omega
             case rel => exact ⟨(y176), (wrap64 (x18_2 + 1)), (by first | rfl | (simp; done) | (simp [*]; done)), H', ⟨by have := HK1.out; have := HK2.out; omega⟩, ⟨by (with_reducible repeat (first | apply Kd.R_alloc | apply Kd.R_drewN | apply Kd.R_drew)); exact Kd.R_mono HO_4.out (fun _ hk => hk.2)⟩, ⟨by (with_reducible repeat (first | apply Kd.R_alloc | apply Kd.R_drewN | apply Kd.R_drew)); exact HO178.out⟩, ⟨by repeat (first | (with_reducible first | exact HB.out | apply below_alloc | apply pw_below_drewN | apply below_drew1 | refine below_set ?_ GE173.out) | exact HB.out)⟩⟩
            ·rw [if_neg c11] at H
             exact absurd H (by simp)
           ·replace c9 := Bool.eq_false_iff.mpr c9
            subst c9
            have H1 : (some ((⟨#[]⟩ : ByteArray), 1)) = some (r1, r2) := by rw [if_neg (show ¬ (false = true) by decide)] at H; exact H
            clear H
            have H := H1
            clear H1
            simp only [Option.some.injEq, Prod.mk.injEq] at H
            obtain ⟨rfl, rfl⟩ := H
            have p172 : 0 ≤ (x18_2 : Int) := of_decide_eq_true (by first | (with_reducible assumption) | assumption)
            have q172 : x18_2 < ((rd_L3 l0 x12_1).length : Int) := of_decide_eq_true (by first | (with_reducible assumption) | assumption)
            obtain ⟨ad172, e172, hx172_0, hx172_1, hx172_2⟩ := at_T46 HR167_0.out x18_2 p172 q172
            cases e172
            replace hx172_0 := (HB.out.cell (World.block_lt_of_cell? w _ hx172_0)).trans hx172_0
            replace hx172_1 := (HB.out.cell (World.block_lt_of_cell? w _ hx172_1)).trans hx172_1
            replace hx172_2 := (HB.out.cell (World.block_lt_of_cell? w _ hx172_2)).trans hx172_2
            replace p172 := eq_true p172
            replace q172 := eq_true q172
            go_wp2_with (first | ((with_reducible refine gate_dst (N := 9) rfl ?_); refine box_event ?hg (N := 9) ?hd (cs := #[.string (⟨#[]⟩ : ByteArray), .int .i64 0, .string (⟨#[]⟩ : ByteArray)]) (t := 46) ?hr ?_; (case hd => rfl); (case hg => rfl); (case hr => first | (go_simp; done) | (go_simp; rfl)); intro gb173 hg w18 hbox hb; have n0_ := Aside0.mk (Kd.R_below (Rq HO_4.out) hb); have n1_ := Aside0.mk (Kd.R_below (Rq HO_7.out) hb); have n2_ := Aside0.mk (below_step (W0 HB.out) hb); have n3_ := Aside0.mk (hbox); have n4_ := Aside0.mk ((by rw [hg]; exact (below_size (W0 HB.out)) : w.heap.size ≤ gb173)); have n5_ := Aside0.mk ((by rw [hg]; exact (below_size (W0 HB.out)) : w.heap.size ≤ gb173)); clear HO_4; clear HO_7; clear HB; have HO_4 := n0_; have HO_7 := n1_; have HB := n2_; have BK173 := n3_; have GW173 := n4_; have GE173 := n5_; clear n0_ n1_ n2_ n3_ n4_ n5_; clear hb hbox hg; have hcz19_0 : w18.cell? ⟨gb173, 0, none⟩ = some (.string (⟨#[]⟩ : ByteArray)) := (blk_cell BK173.out 0).trans rfl; have hcz19_1 : w18.cell? ⟨gb173, 1, none⟩ = some (.int .i64 0) := (blk_cell BK173.out 1).trans rfl; have hcz19_2 : w18.cell? ⟨gb173, 2, none⟩ = some (.string (⟨#[]⟩ : ByteArray)) := (blk_cell BK173.out 2).trans rfl; have hfz19_0 := blk_frozen BK173.out 0; have hfz19_1 := blk_frozen BK173.out 1; have hfz19_2 := blk_frozen BK173.out 2) | ((with_reducible refine gate_callee (f := 26) rfl ?_); refine goesL_ (some 23) rfl rfl Tryd.func26 (by kernel_rfl) rfl #[.agg #[.string ((rd_T46 (rd_L3 l0 x12_1) x18_2).f0), .int .i64 ((rd_T46 (rd_L3 l0 x12_1) x18_2).f1), .string ((rd_T46 (rd_L3 l0 x12_1) x18_2).f2)]] rfl (by (try simp only [List.map_toArray, List.map_cons, List.map_nil]); first | done | rfl | (simp only [List.length_drop, List.length_take]; rfl) | (simp; done)) ?_; (with_reducible refine (relation_Formed.calls k2 ((rd_T46 (rd_L3 l0 x12_1) x18_2).f0) ((rd_T46 (rd_L3 l0 x12_1) x18_2).f1) ((rd_T46 (rd_L3 l0 x12_1) x18_2).f2) false _ ?side1 A8.out).mono ?_); (case side1 => exact GG.below HG.out (W1 HB.out GE173.out)); rintro e w20 ⟨rfl, hb⟩; refine ⟨_, rfl, ?_⟩; have n0_ := Aside0.mk (Kd.R_below (by (with_reducible repeat (first | apply Kd.R_alloc | apply Kd.R_drewN | apply Kd.R_drew)); exact (Kd.R_mono (Kd.R_far (p := ⟨gb173, 2, none⟩) (Kd.R_far (p := ⟨gb173, 1, none⟩) (Kd.R_far (p := ⟨gb173, 0, none⟩) (Rt HO_4.out BK173.out) (fun _ hk => hk.2) (.string ((rd_T46 (rd_L3 l0 x12_1) x18_2).f0))) (fun _ hk => hk.2) (.int .i64 ((rd_T46 (rd_L3 l0 x12_1) x18_2).f1))) (fun _ hk => hk.2) (.string ((rd_T46 (rd_L3 l0 x12_1) x18_2).f2))) (fun _ h_ => h_.1))) hb); have n1_ := Aside0.mk (Kd.R_below (by (with_reducible repeat (first | apply Kd.R_alloc | apply Kd.R_drewN | apply Kd.R_drew)); exact (Kd.R_mono (Kd.R_far (p := ⟨gb173, 2, none⟩) (Kd.R_far (p := ⟨gb173, 1, none⟩) (Kd.R_far (p := ⟨gb173, 0, none⟩) (Rt HO_7.out BK173.out) (fun _ hk => hk.2) (.string ((rd_T46 (rd_L3 l0 x12_1) x18_2).f0))) (fun _ hk => hk.2) (.int .i64 ((rd_T46 (rd_L3 l0 x12_1) x18_2).f1))) (fun _ hk => hk.2) (.string ((rd_T46 (rd_L3 l0 x12_1) x18_2).f2))) (fun _ h_ => h_.1))) hb); have n2_ := Aside0.mk (blk_below (g := gb173) (o := .cells #[.string ((rd_T46 (rd_L3 l0 x12_1) x18_2).f0), .int .i64 ((rd_T46 (rd_L3 l0 x12_1) x18_2).f1), .string ((rd_T46 (rd_L3 l0 x12_1) x18_2).f2)] 46 (0, 0)) (by (with_reducible repeat (first | refine blk_drewN ?_ _ | refine blk_drew ?_ | refine blk_alloc ?_ _)); refine blk_put (cs := #[.string ((rd_T46 (rd_L3 l0 x12_1) x18_2).f0), .int .i64 ((rd_T46 (rd_L3 l0 x12_1) x18_2).f1), .string (⟨#[]⟩ : ByteArray)]) ?_ 2 _ rfl; (with_reducible repeat (first | refine blk_drewN ?_ _ | refine blk_drew ?_ | refine blk_alloc ?_ _)); refine blk_put (cs := #[.string ((rd_T46 (rd_L3 l0 x12_1) x18_2).f0), .int .i64 0, .string (⟨#[]⟩ : ByteArray)]) ?_ 1 _ rfl; (with_reducible repeat (first | refine blk_drewN ?_ _ | refine blk_drew ?_ | refine blk_alloc ?_ _)); refine blk_put (cs := #[.string (⟨#[]⟩ : ByteArray), .int .i64 0, .string (⟨#[]⟩ : ByteArray)]) ?_ 0 _ rfl; (with_reducible repeat (first | refine blk_drewN ?_ _ | refine blk_drew ?_ | refine blk_alloc ?_ _)); exact BK173.out) hb); have n3_ := Aside0.mk (below_step (W1 HB.out GE173.out) hb); clear HO_4; clear HO_7; clear BK173; clear HB; have HO_4 := n0_; have HO_7 := n1_; have BK173 := n2_; have HB := n3_; clear n0_ n1_ n2_ n3_; (try clear hb); (try clear hb2); (try clear hk); (try clear hi)))
            go_ret2
            exact ⟨by first | rfl | (simp [errW_none, errW_some] <;> rfl) | (simp [*, errW_none, errW_some] <;> rfl) | (simp [errW_none, errW_some, Go.Proofs.YtmocooihkobdjaaDoor.listNe]; done), by repeat (first | (with_reducible first | exact HB.out | apply below_alloc | apply pw_below_drewN | apply below_drew1 | refine below_set ?_ GE173.out) | exact HB.out)⟩
          ·rw [if_neg c7] at H
           exact absurd H (by simp)
         ·rw [if_neg c6] at H
          exact absurd H (by simp)
        ·rw [if_neg c5] at H
         have c5b0 : decide (x18_2 < ((rd_L3 l0 x12_1).length : Int)) = false := decide_eq_false c5
         clear c5
         by_cases c21 : (x7_2.length : Int) = 0
         ·rw [if_pos c21] at H
          have c21b0 : ((x7_2.length : Int) == 0) = true := beq_iff_eq.mpr c21
          have c21b1 : ((x7_2.length : Int) != 0) = false := bne_eq_false_iff_eq.mpr c21
          clear c21
          simp only [Option.some.injEq, Prod.mk.injEq] at H
          obtain ⟨rfl, rfl⟩ := H
          obtain ⟨Ao22, co22, eo22⟩ := Kd.R_slice HO_7.out
          subst eo22
          go_wp2
          go_ret2
          exact ⟨by first | rfl | (simp [errW_none, errW_some] <;> rfl) | (simp [*, errW_none, errW_some] <;> rfl) | (simp [errW_none, errW_some, Go.Proofs.YtmocooihkobdjaaDoor.listNe]; done), by repeat (first | (with_reducible first | exact HB.out | apply below_alloc | apply pw_below_drewN | apply below_drew1) | exact HB.out)⟩
         ·rw [if_neg c21] at H
          have c21b0 : ((x7_2.length : Int) == 0) = false := beq_eq_false_iff_ne.mpr c21
          have c21b1 : ((x7_2.length : Int) != 0) = true := bne_iff_ne.mpr c21
          have c21b2 : ¬ (x7_2 = []) := fun h_ => c21 (by rw [h_]; rfl)
          replace H := Option.bind_eq_some_iff.mp H
          obtain ⟨t168, A230, H⟩ := H
          replace H : (if x4_1.length < 8796093022208 then (relation_Write.l0 k2 (x4_1 ++ [t168]) l0 (l0.length : Int) (wrap64 (x12_1 + 1))) else (none)) = some (r1, r2) := H
          have A23 := Aside0.mk A230
          clear A230
          by_cases c24 : x4_1.length < 8796093022208
          ·rw [if_pos c24] at H
           have LMc24 := Aside0.mk c24
           clear c24
           obtain ⟨y169, hy169⟩ : ∃ y_ : List ByteArray, y_ = (x4_1 ++ [t168]) := ⟨_, rfl⟩
           replace H : (relation_Write.l0 k2 y169 l0 (l0.length : Int) (wrap64 (x12_1 + 1))) = some (r1, r2) := by first | (rw [hy169]; with_reducible exact H) | (have H2_ := (Option.bind_some _ _).symm.trans H; rw [hy169]; with_reducible exact H2_) | (have H2_ := (Option.bind_some _ _).symm.trans H; with_reducible exact H2_) | with_reducible exact H | (rw [hy169]; exact H) | exact H
           have Ny169 := Aside0.mk hy169
           clear hy169
           have H' := Aside0.mk H
           clear H
           obtain ⟨Ao25, co25, eo25⟩ := Kd.R_slice HO_7.out
           subst eo25
           go_wp2_with (first | ((with_reducible refine gate_callee (f := 78) rfl ?_); refine goesL_ (some 36) rfl rfl Tryd.func78 (by kernel_rfl) rfl #[.slice Ao25 x7_2.length co25, .string (⟨#[32, 124, 32]⟩ : ByteArray)] rfl (by (try simp only [List.map_toArray, List.map_cons, List.map_nil]); first | done | rfl | (simp only [List.length_drop, List.length_take]; rfl) | (simp; done)) ?_; (with_reducible refine (strings_Join.calls _ _ x7_2 (⟨#[32, 124, 32]⟩ : ByteArray) t168 _ ?side1 ?side2 A23.out).mono ?_); (case side1 => repeat (first | exact (Kd.R_reads' HO_7.out).2.2 | (with_reducible refine Kd.C_alloc ?_ _) | (with_reducible refine Kd.C_drewN ?_ _) | (with_reducible refine Kd.C_drew ?_))); (case side2 => exact (Kd.R_reads' HO_7.out).2.1); rintro e w26 ⟨rfl, hb⟩; refine ⟨_, rfl, ?_⟩; have n0_ := Aside0.mk (Kd.R_below (Rq HO_4.out) hb); have n1_ := Aside0.mk (Kd.R_below (Rq HO_7.out) hb); have n2_ := Aside0.mk (below_step (W0 HB.out) hb); clear HO_4; clear HO_7; clear HB; have HO_4 := n0_; have HO_7 := n1_; have HB := n2_; clear n0_ n1_ n2_; (try clear hb); (try clear hb2); (try clear hk); (try clear hi)) | ((with_reducible refine gate_builtin (b := .append) (xs := #[.tmp 34, .tmp 37]) rfl ?_); at_builtin; refine Kd.R_append Kd.string (w0 := w) w.heap.size rfl (.tmp 34) (.tmp 37) 73 9 (.string ⟨#[]⟩) 16 rfl Tryd.underlying73 info9 rfl (by decide) (by omega) u4 x4_1 t168 [.string t168] (fun k_ => some k_ ≠ (.slice Ao25 x7_2.length co25 : Value).ownBlock) (fun _ => False) rfl rfl ?aP (fun _ hk => hk.elim) ?aF ?aO ?aB ?aS ?aL ?_; (case aP => exact rfl); (case aB => exact (W0 HB.out)); (case aF => exact (fun k_ hk => Kd.fresh' (Kd.R_lt (Rq HO_7.out)) k_ hk)); (case aO => exact (Rq HO_4.out)); (case aS => exact (below_size (W0 HB.out))); (case aL => have := LMc24.out; omega); intro v170 w27 ho hb hg hat; rw [← Ny169.out] at ho; have n0_ := Aside0.mk (Kd.R_after (ok := (fun _ => True)) (by (with_reducible repeat (first | apply Kd.R_alloc | apply Kd.R_drewN | apply Kd.R_drew)); exact Kd.R_mono HO_7.out (fun _ hk => ⟨trivial, hk⟩)) hg hat); have n1_ := Aside0.mk (hb); have n2_ := Aside0.mk (ho); clear HO_7; clear HB; clear HO_4; have HO_7 := n0_; have HB := n1_; have HO171 := n2_; clear n0_ n1_ n2_; clear ho hb hg hat))
           go_roundg k2
           case measure => have := HK1.out; have := HK2.out; omega
           case rel => exact ⟨(y169), (wrap64 (x12_1 + 1)), (by first | rfl | (simp; done) | (simp [*]; done)), H', ⟨by have := HK1.out; have := HK2.out; omega⟩, ⟨by (with_reducible repeat (first | apply Kd.R_alloc | apply Kd.R_drewN | apply Kd.R_drew)); exact Kd.R_mono HO171.out (fun _ hk => trivial)⟩, ⟨by repeat (first | (with_reducible first | exact HB.out | apply below_alloc | apply pw_below_drewN | apply below_drew1) | exact HB.out)⟩⟩
          ·rw [if_neg c24] at H
           exact absurd H (by simp)
     ·rw [if_neg c4] at H
      exact absurd H (by simp)
    ·rw [if_neg c3] at H
     exact absurd H (by simp)
   ·rw [if_neg c2] at H
    have c2b0 : decide (x12_1 < (l0.length : Int)) = false := decide_eq_false c2
    clear c2
    replace H := Option.bind_eq_some_iff.mp H
    obtain ⟨t166, A280, H⟩ := H
    replace H : (some (t166, 0)) = some (r1, r2) := H
    have A28 := Aside0.mk A280
    clear A280
    simp only [Option.some.injEq, Prod.mk.injEq] at H
    obtain ⟨rfl, rfl⟩ := H
    obtain ⟨Ao29, co29, eo29⟩ := Kd.R_slice HO_4.out
    subst eo29
    go_wp2_with (first | ((with_reducible refine gate_callee (f := 78) rfl ?_); refine goesL_ (some 41) rfl rfl Tryd.func78 (by kernel_rfl) rfl #[.slice Ao29 x4_1.length co29, .string (⟨#[44, 32]⟩ : ByteArray)] rfl (by (try simp only [List.map_toArray, List.map_cons, List.map_nil]); first | done | rfl | (simp only [List.length_drop, List.length_take]; rfl) | (simp; done)) ?_; (with_reducible refine (strings_Join.calls _ _ x4_1 (⟨#[44, 32]⟩ : ByteArray) t166 _ ?side1 ?side2 A28.out).mono ?_); (case side1 => repeat (first | exact (Kd.R_reads' HO_4.out).2.2 | (with_reducible refine Kd.C_alloc ?_ _) | (with_reducible refine Kd.C_drewN ?_ _) | (with_reducible refine Kd.C_drew ?_))); (case side2 => exact (Kd.R_reads' HO_4.out).2.1); rintro e w30 ⟨rfl, hb⟩; refine ⟨_, rfl, ?_⟩; have n0_ := Aside0.mk (Kd.R_below (Rq HO_4.out) hb); have n1_ := Aside0.mk (below_step (W0 HB.out) hb); clear HO_4; clear HB; have HO_4 := n0_; have HB := n1_; clear n0_ n1_; (try clear hb); (try clear hb2); (try clear hk); (try clear hi)))
    go_ret2
    exact ⟨by first | rfl | (simp [errW_none, errW_some] <;> rfl) | (simp [*, errW_none, errW_some] <;> rfl) | (simp [errW_none, errW_some, Go.Proofs.YtmocooihkobdjaaDoor.listNe]; done), by repeat (first | (with_reducible first | exact HB.out | apply below_alloc | apply pw_below_drewN | apply below_drew1) | exact HB.out)⟩
end Go.Proofs.YtmocooihkobdjaaDoor.G
end
section
namespace Go.Proofs.YtmocooihkobdjaaDoor.G
open Go.RowKit Go.Proofs.YtmocooihkobdjaaDoorW.PrintWords Go.Proofs.YtmocooihkobdjaaDoorW.PrintLast Go.Proofs.YtmocooihkobdjaaDoorW.PrintMore
attribute [local go_sem] max2_int min2_int max_two min_two max_three min_three max_four min_four
set_option linter.unusedVariables false
set_option linter.unusedSimpArgs false
def relation_WriteList.l0 : Nat → List (List (S46)) → List (S46) → Int → Int → Option (ByteArray × Int)
 | 0, _, _, _, _ => none
 | k + 1, x4, x7, x8, x9 => if x9 < x8 then (if 0 ≤ x9 then (if x9 < (x7.length : Int) then (if x4.length < 5864062014805 then (relation_WriteList.l0 k (x4 ++ [(([(⟨(rd_T46 x7 x9).f0, (rd_T46 x7 x9).f1, (rd_T46 x7 x9).f2⟩ : S46)] : List (S46)))]) x7 x8 (wrap64 (x9 + 1))) else (none)) else (none)) else (none)) else ((relation_Write.f k x4).bind fun bt187 => (some (bt187.1, bt187.2)))
def relation_WriteList.f (k : Nat) (l0 : List (S46)) : Option (ByteArray × Int) := relation_WriteList.l0 k ([] : List (List (S46))) l0 (l0.length : Int) 0
theorem relation_WriteList.mono_l : ∀ k, (∀ y0 y1 y2 y3, LeO (relation_WriteList.l0 k y0 y1 y2 y3) (relation_WriteList.l0 (k + 1) y0 y1 y2 y3))
 | 0 => fun _ _ _ _ r h => by simp [relation_WriteList.l0] at h
 | k + 1 => by
  have ih0 := relation_WriteList.mono_l k
  ·intro y0 y1 y2 y3
   unfold relation_WriteList.l0
   repeat' first
   | (with_reducible exact ih0 _ _ _ _)
   | (with_reducible exact relation_Write.mono _ _)
   | (with_reducible exact LeO.refl _)
   | (with_reducible exact LeO.none _)
   | (with_reducible refine LeO.ite ?_ ?_)
   | (with_reducible refine LeO.bind ?_ (fun _ => ?_))
   | exact ih0 _ _ _ _
   | exact relation_Write.mono _ _
   | exact LeO.none _
   | refine LeO.ite ?_ ?_
   | refine LeO.bind ?_ (fun _ => ?_)
theorem relation_WriteList.mono : ∀ a0 k, LeO (relation_WriteList.f k a0) (relation_WriteList.f (k + 1) a0) := by
 intro a0 k
 have ih0 := relation_WriteList.mono_l k
 unfold relation_WriteList.f
 repeat' first
   | (with_reducible exact ih0 _ _ _ _)
   | (with_reducible exact relation_Write.mono _ _)
   | (with_reducible exact LeO.refl _)
   | (with_reducible exact LeO.none _)
   | (with_reducible refine LeO.ite ?_ ?_)
   | (with_reducible refine LeO.bind ?_ (fun _ => ?_))
   | exact ih0 _ _ _ _
   | exact relation_Write.mono _ _
   | exact LeO.none _
   | refine LeO.ite ?_ ?_
   | refine LeO.bind ?_ (fun _ => ?_)
set_option maxHeartbeats 8000000 in
set_option maxRecDepth 100000 in
theorem relation_WriteList.calls (k : Nat) (A0 : Option Addr) (c0 : Nat) (l0 : List (S46)) (r1 : ByteArray) (r2 : Int) (w : World) (hr0 : Kd.C k46 w A0 l0.length l0) (hc0 : l0.length ≤ c0) (hG : GG w) (h : relation_WriteList.f k l0 = some (r1, r2)) :
  Calls Tryd.prog 56 #[.slice A0 l0.length c0] w fun e w' => e = .returned (.tuple #[.string r1, .int .i64 r2]) ∧ Below w.heap.size w w' := by
 have hu46 := Tryd.underlying46
 have HR0 := Aside0.mk hr0
 have HC0 := Aside0.mk hc0
 clear hr0 hc0
 have HB := Aside0.mk (Below.refl w.heap.size w)
 have HG := Aside0.mk hG
 clear hG
 have H : (relation_WriteList.l0 k ([] : List (List (S46))) l0 (l0.length : Int) 0) = some (r1, r2) := h
 clear h
 have H' := Aside0.mk H
 clear H
 go_enter Tryd.func56, Tryd.ntmps56
 go_wp2
 go_loopg [4, 9] k (fun kq v4 v9 w' => ∃ (x4_1 : List (List (S46))) (x9_1 : Int), v9 = .int .i64 x9_1 ∧ Aside0 (relation_WriteList.l0 kq x4_1 l0 (l0.length : Int) x9_1 = some (r1, r2)) ∧ Aside0 (kq ≤ k) ∧ Aside0 (Kd.S (Kd.slice 46 k46) 23 w' w.heap.size (fun _ => True) v4 x4_1) ∧ Aside0 (Below w.heap.size w w'))
 case atStart => exact ⟨(([] : List (List (S46)))), (0), (by first | rfl | (simp; done) | (simp [*]; done)), H', ⟨Nat.le_refl _⟩, ⟨by first | exact Kd.S_nil _ _ _ _ _ | exact Kd.N_nil _ _ _ _ _ | exact Kd.V_nil _ _ _ _ _ | exact Kd.Q_nil _ _ _ _ _ | exact Kd.R_nil _ _ _ _ _⟩, ⟨by repeat (first | (with_reducible first | exact HB.out | apply below_alloc | apply pw_below_drewN | apply below_drew1) | exact HB.out)⟩⟩
 case round =>
  clear H'
  obtain ⟨x4_1, x9_1, rfl, HA, HK1, HO_4, HB⟩ := hrel
  cases gk with
  | zero => exact absurd HA.out (by simp [relation_WriteList.l0])
  | succ k1 =>
   have H := HA.out
   clear HA
   simp only [relation_WriteList.l0] at H
   by_cases c2 : x9_1 < (l0.length : Int)
   ·rw [if_pos c2] at H
    have c2b0 : decide (x9_1 < (l0.length : Int)) = true := decide_eq_true c2
    clear c2
    by_cases c3 : 0 ≤ x9_1
    ·rw [if_pos c3] at H
     have c3b0 : decide (0 ≤ x9_1) = true := decide_eq_true c3
     clear c3
     by_cases c4 : x9_1 < (l0.length : Int)
     ·rw [if_pos c4] at H
      have c4b0 : decide (x9_1 < (l0.length : Int)) = true := decide_eq_true c4
      clear c4
      obtain ⟨y181, hy181⟩ : ∃ y_ : List (S46), y_ = (([(⟨(rd_T46 l0 x9_1).f0, (rd_T46 l0 x9_1).f1, (rd_T46 l0 x9_1).f2⟩ : S46)] : List (S46))) := ⟨_, rfl⟩
      replace H : (if x4_1.length < 5864062014805 then (relation_WriteList.l0 k1 (x4_1 ++ [y181]) l0 (l0.length : Int) (wrap64 (x9_1 + 1))) else (none)) = some (r1, r2) := by first | (rw [hy181]; with_reducible exact H) | (have H2_ := (Option.bind_some _ _).symm.trans H; rw [hy181]; with_reducible exact H2_) | (have H2_ := (Option.bind_some _ _).symm.trans H; with_reducible exact H2_) | with_reducible exact H | (rw [hy181]; exact H) | exact H
      have Ny181 := Aside0.mk hy181
      clear hy181
      by_cases c5 : x4_1.length < 5864062014805
      ·rw [if_pos c5] at H
       have LMc5 := Aside0.mk c5
       clear c5
       obtain ⟨y184, hy184⟩ : ∃ y_ : List (List (S46)), y_ = (x4_1 ++ [y181]) := ⟨_, rfl⟩
       replace H : (relation_WriteList.l0 k1 y184 l0 (l0.length : Int) (wrap64 (x9_1 + 1))) = some (r1, r2) := by first | (rw [hy184]; with_reducible exact H) | (have H2_ := (Option.bind_some _ _).symm.trans H; rw [hy184]; with_reducible exact H2_) | (have H2_ := (Option.bind_some _ _).symm.trans H; with_reducible exact H2_) | with_reducible exact H | (rw [hy184]; exact H) | exact H
       have Ny184 := Aside0.mk hy184
       clear hy184
       have H' := Aside0.mk H
       clear H
       have p179 : 0 ≤ (x9_1 : Int) := of_decide_eq_true (by first | (with_reducible assumption) | assumption)
       have q179 : x9_1 < (l0.length : Int) := of_decide_eq_true (by first | (with_reducible assumption) | assumption)
       obtain ⟨ad179, e179, hx179_0, hx179_1, hx179_2⟩ := at_T46 HR0.out x9_1 p179 q179
       cases e179
       replace hx179_0 := (HB.out.cell (World.block_lt_of_cell? w _ hx179_0)).trans hx179_0
       replace hx179_1 := (HB.out.cell (World.block_lt_of_cell? w _ hx179_1)).trans hx179_1
       replace hx179_2 := (HB.out.cell (World.block_lt_of_cell? w _ hx179_2)).trans hx179_2
       replace p179 := eq_true p179
       replace q179 := eq_true q179
       go_wp2_with (first | ((with_reducible refine gate_dst (N := 6) rfl ?_); refine box_event ?hg (N := 6) ?hd (cs := #[.string (⟨#[]⟩ : ByteArray), .int .i64 0, .string (⟨#[]⟩ : ByteArray)]) (t := 46) ?hr ?_; (case hd => rfl); (case hg => rfl); (case hr => first | (go_simp; done) | (go_simp; rfl)); intro gb180 hg w6 hbox hb; have n0_ := Aside0.mk (Kd.S_below (Kd.S_elderB (Sq HO_4.out) gb180 (Nat.le_of_eq hg.symm)) hb); have n1_ := Aside0.mk (below_step (W0 HB.out) hb); have n2_ := Aside0.mk (hbox); have n3_ := Aside0.mk ((by rw [hg]; exact (below_size (W0 HB.out)) : w.heap.size ≤ gb180)); have n4_ := Aside0.mk ((by rw [hg]; exact (below_size (W0 HB.out)) : w.heap.size ≤ gb180)); clear HO_4; clear HB; have HO_4 := n0_; have HB := n1_; have BK180 := n2_; have GW180 := n3_; have GE180 := n4_; clear n0_ n1_ n2_ n3_ n4_; clear hb hbox hg; have hcz7_0 : w6.cell? ⟨gb180, 0, none⟩ = some (.string (⟨#[]⟩ : ByteArray)) := (blk_cell BK180.out 0).trans rfl; have hcz7_1 : w6.cell? ⟨gb180, 1, none⟩ = some (.int .i64 0) := (blk_cell BK180.out 1).trans rfl; have hcz7_2 : w6.cell? ⟨gb180, 2, none⟩ = some (.string (⟨#[]⟩ : ByteArray)) := (blk_cell BK180.out 2).trans rfl; have hfz7_0 := blk_frozen BK180.out 0; have hfz7_1 := blk_frozen BK180.out 1; have hfz7_2 := blk_frozen BK180.out 2) | ((with_reducible refine gate_dst (N := 15) rfl ?_); refine Kd.R_lit k46 _ 46 ?hg (N := 15) ?hd (xs := ([(⟨(rd_T46 l0 x9_1).f0, (rd_T46 l0 x9_1).f1, (rd_T46 l0 x9_1).f2⟩ : S46)] : List (S46))) (inner := [.string ((rd_T46 l0 x9_1).f0), .int .i64 ((rd_T46 l0 x9_1).f1), .string ((rd_T46 l0 x9_1).f2)]) (ok := fun _ => True) (okp := fun _ => True) ?hr ?hp (fun _ hk => hk) trivial (Below.refl _ _) (Nat.le_refl _) (by simp) ?_; (case hd => rfl); (case hg => rfl); (case hr => first | (go_simp; done) | (go_simp; rfl)); (case hp => exact (Reps.c3 (show Kd.M k46 _ _ _ (⟨(rd_T46 l0 x9_1).f0, (rd_T46 l0 x9_1).f1, (rd_T46 l0 x9_1).f2⟩ : S46) [.string ((rd_T46 l0 x9_1).f0), .int .i64 ((rd_T46 l0 x9_1).f1), .string ((rd_T46 l0 x9_1).f2)] from (k46_mkM _ _ _ (⟨(rd_T46 l0 x9_1).f0, (rd_T46 l0 x9_1).f1, (rd_T46 l0 x9_1).f2⟩ : S46) )) (Reps.none _ _))); intro v182 w8 ho9 hb hg_ hnew_; clear hg_ hnew_; (first | rw [← Ny181.out] at ho9 | (simp only [Int.reduceToNat] at ho9; rw [← Ny181.out] at ho9)); have n0_ := Aside0.mk (Kd.S_elder' (by (with_reducible repeat (first | apply Kd.S_alloc | apply Kd.S_drewN | apply Kd.S_drew)); exact (Kd.S_mono (Kd.S_far (p := ⟨gb180, 2, none⟩) (Kd.S_far (p := ⟨gb180, 1, none⟩) (Kd.S_far (p := ⟨gb180, 0, none⟩) (Kd.S_mono HO_4.out (fun k_ hk => (⟨hk, hk.2⟩ : _ ∧ k_ ≠ gb180))) (fun _ hk => hk.2) (.string ((rd_T46 l0 x9_1).f0))) (fun _ hk => hk.2) (.int .i64 ((rd_T46 l0 x9_1).f1))) (fun _ hk => hk.2) (.string ((rd_T46 l0 x9_1).f2))) (fun _ h_ => h_.1))) (Kd.R_base ho9) hb); have n1_ := Aside0.mk (Kd.R_lower (Kd.R_newB ho9 (g := gb180) (o := .cells #[.string ((rd_T46 l0 x9_1).f0), .int .i64 ((rd_T46 l0 x9_1).f1), .string ((rd_T46 l0 x9_1).f2)] 46 (0, 0)) (by (with_reducible repeat (first | refine blk_drewN ?_ _ | refine blk_drew ?_ | refine blk_alloc ?_ _)); refine blk_put (cs := #[.string ((rd_T46 l0 x9_1).f0), .int .i64 ((rd_T46 l0 x9_1).f1), .string (⟨#[]⟩ : ByteArray)]) ?_ 2 _ rfl; (with_reducible repeat (first | refine blk_drewN ?_ _ | refine blk_drew ?_ | refine blk_alloc ?_ _)); refine blk_put (cs := #[.string ((rd_T46 l0 x9_1).f0), .int .i64 0, .string (⟨#[]⟩ : ByteArray)]) ?_ 1 _ rfl; (with_reducible repeat (first | refine blk_drewN ?_ _ | refine blk_drew ?_ | refine blk_alloc ?_ _)); refine blk_put (cs := #[.string (⟨#[]⟩ : ByteArray), .int .i64 0, .string (⟨#[]⟩ : ByteArray)]) ?_ 0 _ rfl; (with_reducible repeat (first | refine blk_drewN ?_ _ | refine blk_drew ?_ | refine blk_alloc ?_ _)); exact BK180.out)) (below_size (W1 HB.out GE180.out))); have n2_ := Aside0.mk (blk_below (g := gb180) (o := .cells #[.string ((rd_T46 l0 x9_1).f0), .int .i64 ((rd_T46 l0 x9_1).f1), .string ((rd_T46 l0 x9_1).f2)] 46 (0, 0)) (by (with_reducible repeat (first | refine blk_drewN ?_ _ | refine blk_drew ?_ | refine blk_alloc ?_ _)); refine blk_put (cs := #[.string ((rd_T46 l0 x9_1).f0), .int .i64 ((rd_T46 l0 x9_1).f1), .string (⟨#[]⟩ : ByteArray)]) ?_ 2 _ rfl; (with_reducible repeat (first | refine blk_drewN ?_ _ | refine blk_drew ?_ | refine blk_alloc ?_ _)); refine blk_put (cs := #[.string ((rd_T46 l0 x9_1).f0), .int .i64 0, .string (⟨#[]⟩ : ByteArray)]) ?_ 1 _ rfl; (with_reducible repeat (first | refine blk_drewN ?_ _ | refine blk_drew ?_ | refine blk_alloc ?_ _)); refine blk_put (cs := #[.string (⟨#[]⟩ : ByteArray), .int .i64 0, .string (⟨#[]⟩ : ByteArray)]) ?_ 0 _ rfl; (with_reducible repeat (first | refine blk_drewN ?_ _ | refine blk_drew ?_ | refine blk_alloc ?_ _)); exact BK180.out) hb); have n3_ := Aside0.mk (below_step (W1 HB.out GE180.out) hb); clear HO_4; clear BK180; clear HB; have HO_4 := n0_; have HO183 := n1_; have BK180 := n2_; have HB := n3_; clear n0_ n1_ n2_ n3_; clear hb ho9; obtain ⟨Ao11, co11, eo11⟩ := Kd.R_slice HO183.out; subst eo11) | ((with_reducible refine gate_builtin (b := .append) (xs := #[.tmp 13, .tmp 16]) rfl ?_); at_builtin; refine Kd.S_append (Kd.slice 46 k46) (w0 := w) w.heap.size rfl (.tmp 13) (.tmp 16) 22 23 (.slice none 0 0) 24 rfl Tryd.underlying22 info23 rfl (by decide) (by omega) u4 x4_1 y181 [.slice Ao11 y181.length co11] (fun k_ => k_ ≠ gb180) (fun k_ => some k_ = (.slice Ao11 y181.length co11 : Value).ownBlock) rfl rfl ?aP (fun k_ hk_ => ((Kd.R_mono (ok' := fun k_ => ((fun k_ => k_ ≠ gb180)) k_ ∧ some k_ ≠ (u4 : Value).ownBlock) (Ra (HO183.out) (Kd.S_typed HO_4.out)) (fun k_ hk => ⟨hk.1.2, hk.2⟩))).1 k_ hk_.symm) ?aF ?aO ?aB ?aS ?aL ?_; (case aP => exact Kd.M_row (Kd.R_mono (Kd.R_tight rfl (Kd.R_mono (ok' := fun k_ => ((fun k_ => k_ ≠ gb180)) k_ ∧ some k_ ≠ (u4 : Value).ownBlock) (Ra (HO183.out) (Kd.S_typed HO_4.out)) (fun k_ hk => ⟨hk.1.2, hk.2⟩))) (fun _ h_ => h_))); (case aB => exact (W1 HB.out GE180.out)); (case aF => exact (fun k_ hk => Kd.freshB (g := gb180) (Bq BK180.out) k_ hk)); (case aO => exact (by (with_reducible repeat (first | apply Kd.S_alloc | apply Kd.S_drewN | apply Kd.S_drew)); exact Kd.S_mono HO_4.out (fun k_ hk => ⟨hk.1.2, fun e_ => hk.2 e_⟩))); (case aS => exact (below_size (W1 HB.out GE180.out))); (case aL => have := LMc5.out; omega); intro v185 w10 ho hb hg hat; rw [← Ny184.out] at ho; have n0_ := Aside0.mk (blk_grown (g := gb180) (Bq BK180.out) hg (Kd.S_ne HO_4.out BK180.out (by decide))); have n1_ := Aside0.mk (hb); have n2_ := Aside0.mk (ho); clear BK180; clear HB; clear HO_4; clear HO183; have BK180 := n0_; have HB := n1_; have HO186 := n2_; clear n0_ n1_ n2_; clear ho hb hg hat))
       go_roundg k1
       case measure => have := HK1.out; omega
       case rel => exact ⟨(y184), (wrap64 (x9_1 + 1)), (by first | rfl | (simp; done) | (simp [*]; done)), H', ⟨by have := HK1.out; omega⟩, ⟨by (with_reducible repeat (first | apply Kd.S_alloc | apply Kd.S_drewN | apply Kd.S_drew)); exact Kd.S_mono HO186.out (fun _ hk => trivial)⟩, ⟨by repeat (first | (with_reducible first | exact HB.out | apply below_alloc | apply pw_below_drewN | apply below_drew1 | refine below_set ?_ GE180.out) | exact HB.out)⟩⟩
      ·rw [if_neg c5] at H
       exact absurd H (by simp)
     ·rw [if_neg c4] at H
      exact absurd H (by simp)
    ·rw [if_neg c3] at H
     exact absurd H (by simp)
   ·rw [if_neg c2] at H
    have c2b0 : decide (x9_1 < (l0.length : Int)) = false := decide_eq_false c2
    clear c2
    replace H := Option.bind_eq_some_iff.mp H
    obtain ⟨⟨t187, t188⟩, A120, H⟩ := H
    replace H : (some (t187, t188)) = some (r1, r2) := H
    have A12 := Aside0.mk A120
    clear A120
    simp only [Option.some.injEq, Prod.mk.injEq] at H
    obtain ⟨rfl, rfl⟩ := H
    obtain ⟨Ao13, co13, eo13⟩ := Kd.S_slice HO_4.out
    subst eo13
    go_wp2_with (first | ((with_reducible refine gate_callee (f := 55) rfl ?_); refine goesL_ (some 20) rfl rfl Tryd.func55 (by kernel_rfl) rfl #[.slice Ao13 x4_1.length co13] rfl (by (try simp only [List.map_toArray, List.map_cons, List.map_nil]); first | done | rfl | (simp only [List.length_drop, List.length_take]; rfl) | (simp; done)) ?_; (with_reducible refine (relation_Write.calls k1 _ _ x4_1 t187 t188 _ ?side1 ?side2 ?side3 A12.out).mono ?_); (case side1 => repeat (first | exact (Kd.S_reads' HO_4.out).2.2 | (with_reducible refine Kd.C_alloc ?_ _) | (with_reducible refine Kd.C_drewN ?_ _) | (with_reducible refine Kd.C_drew ?_))); (case side2 => exact (Kd.S_reads' HO_4.out).2.1); (case side3 => exact GG.below HG.out (W0 HB.out)); rintro e w14 ⟨rfl, hb⟩; refine ⟨_, rfl, ?_⟩; have n0_ := Aside0.mk (Kd.S_below (Sq HO_4.out) hb); have n1_ := Aside0.mk (below_step (W0 HB.out) hb); clear HO_4; clear HB; have HO_4 := n0_; have HB := n1_; clear n0_ n1_; (try clear hb); (try clear hb2); (try clear hk); (try clear hi)))
    go_ret2
    exact ⟨by first | rfl | (simp [errW_none, errW_some] <;> rfl) | (simp [*, errW_none, errW_some] <;> rfl) | (simp [errW_none, errW_some, Go.Proofs.YtmocooihkobdjaaDoor.listNe]; done), by repeat (first | (with_reducible first | exact HB.out | apply below_alloc | apply pw_below_drewN | apply below_drew1) | exact HB.out)⟩
end Go.Proofs.YtmocooihkobdjaaDoor.G
end
section
namespace Go.Proofs.YtmocooihkobdjaaDoor.G
open Go.RowKit Go.Proofs.YtmocooihkobdjaaDoorW.PrintWords Go.Proofs.YtmocooihkobdjaaDoorW.PrintLast Go.Proofs.YtmocooihkobdjaaDoorW.PrintMore
attribute [local go_sem] max2_int min2_int max_two min_two max_three min_three max_four min_four
set_option linter.unusedVariables false
set_option linter.unusedSimpArgs false
def request_Write.line (w t : ByteArray) : ByteArray := ((w ++ (⟨#[32]⟩ : ByteArray)) ++ t) ++ (⟨#[10]⟩ : ByteArray)
def request_Write.insW : ByteArray := ⟨#[105, 110, 115, 116, 97, 108, 108]⟩
def request_Write.forbW : ByteArray := ⟨#[102, 111, 114, 98, 105, 100]⟩
def request_Write.wishW (avoid : Bool) : ByteArray := if avoid = true then ⟨#[97, 118, 111, 105, 100]⟩ else ⟨#[112, 114, 101, 102, 101, 114]⟩
theorem request_Write.ta_ii (v : Value) (w : World) : (Instr.typeAssert (.iface 65 v) 77 65 true).run Tryd.prog w = .ok (.tuple #[v, .bool true]) w := by kernel_rfl
theorem request_Write.ta_fi (v : Value) (w : World) : (Instr.typeAssert (.iface 66 v) 77 65 true).run Tryd.prog w = .ok (.tuple #[.slice none 0 0, .bool false]) w := by kernel_rfl
theorem request_Write.ta_ff (v : Value) (w : World) : (Instr.typeAssert (.iface 66 v) 77 66 true).run Tryd.prog w = .ok (.tuple #[v, .bool true]) w := by kernel_rfl
theorem request_Write.ta_wi (v : Value) (w : World) : (Instr.typeAssert (.iface 68 v) 77 65 true).run Tryd.prog w = .ok (.tuple #[.slice none 0 0, .bool false]) w := by kernel_rfl
theorem request_Write.ta_wf (v : Value) (w : World) : (Instr.typeAssert (.iface 68 v) 77 66 true).run Tryd.prog w = .ok (.tuple #[.slice none 0 0, .bool false]) w := by kernel_rfl
theorem request_Write.ta_ww (v : Value) (w : World) : (Instr.typeAssert (.iface 68 v) 77 68 true).run Tryd.prog w = .ok (.tuple #[v, .bool true]) w := by kernel_rfl
theorem request_Write.wd_i (v : Value) (w : World) : (method 264 65 v "depot/request.word").run Tryd.prog w = .ok (144, v) w := by kernel_rfl
theorem request_Write.wd_f (v : Value) (w : World) : (method 264 66 v "depot/request.word").run Tryd.prog w = .ok (145, v) w := by kernel_rfl
theorem request_Write.wd_w (v : Value) (w : World) : (method 264 68 v "depot/request.word").run Tryd.prog w = .ok (146, v) w := by kernel_rfl
theorem request_Write.word_i (v : Value) (w : World) : Calls Tryd.prog 144 #[v] w fun e w' => e = .returned (.string request_Write.insW) ∧ w' = w := by
  go_enter Tryd.func144, Tryd.ntmps144
  go_wp2
  go_ret
  exact ⟨rfl, rfl⟩
theorem request_Write.word_f (v : Value) (w : World) : Calls Tryd.prog 145 #[v] w fun e w' => e = .returned (.string request_Write.forbW) ∧ w' = w := by
  go_enter Tryd.func145, Tryd.ntmps145
  go_wp2
  go_ret
  exact ⟨rfl, rfl⟩
theorem request_Write.word_w (b : Bool) (v : Value) (w : World) : Calls Tryd.prog 146 #[.agg #[.bool b, v]] w fun e w' => e = .returned (.string (request_Write.wishW b)) ∧ Below w.heap.size w w' := by
  have hu := Tryd.underlying68
  go_enter Tryd.func146, Tryd.ntmps146
  cases b with
  | true =>
    go_wp2
    go_ret
    exact ⟨rfl, (Below.refl _ _).alloc (Nat.le_refl _) _⟩
  | false =>
    go_wp2
    go_ret
    exact ⟨rfl, (Below.refl _ _).alloc (Nat.le_refl _) _⟩
set_option maxHeartbeats 4000000 in
set_option maxRecDepth 100000 in
theorem request_Write.told_install (k : Nat) (A0 : Option Addr) (c0 : Nat) (l0 : List (List S46)) (t : ByteArray) (z : Int) (w : World) (hr0 : Kd.C (Kd.slice 46 k46) w A0 l0.length l0) (hc0 : l0.length ≤ c0) (hG : GG w) (h : relation_Write.f k l0 = some (t, z)) (hz : t.size ≤ 1099511627776) :
    Calls Tryd.prog 35 #[.iface 65 (.slice A0 l0.length c0)] w fun e w' => e = .returned (.string (request_Write.line request_Write.insW t)) ∧ Below w.heap.size w w' := by
  have HG := Aside0.mk hG
  have HR := Aside0.mk hr0
  have HC := Aside0.mk hc0
  have HH := Aside0.mk h
  have hw : request_Write.insW.size ≤ 7 := (by decide)
  have hs1 : (9223372036854775807 < request_Write.insW.size + 1) = False := eq_false (by omega)
  have hs2 : (9223372036854775807 < request_Write.insW.size + 1 + t.size) = False := eq_false (by omega)
  have hs3 : (9223372036854775807 < request_Write.insW.size + 1 + t.size + 1) = False := eq_false (by omega)
  clear hG hr0 hc0 h hw
  have hta := request_Write.ta_ii
  have hwd := request_Write.wd_i
  go_enter Tryd.func35, Tryd.ntmps35
  go_wp2_with (first | (go_at_call 55; refine (relation_Write.calls k A0 c0 l0 t z _ (by first | exact HR.out | exact Kd.C_alloc HR.out _) HC.out (by first | exact HG.out | exact GG.below HG.out ((Below.refl _ _).alloc (Nat.le_refl _) _)) HH.out).mono ?_; rintro e w1 ⟨rfl, hb⟩; have HB := Aside0.mk hb; clear hb) | (refine (request_Write.word_i _ _).mono ?_; rintro e w2 ⟨rfl, rfl⟩))
  go_ret
  exact ⟨rfl, HB.out⟩
set_option maxHeartbeats 4000000 in
set_option maxRecDepth 100000 in
theorem request_Write.told_forbid (k : Nat) (A0 : Option Addr) (c0 : Nat) (l0 : List S46) (t : ByteArray) (z : Int) (w : World) (hr0 : Kd.C k46 w A0 l0.length l0) (hc0 : l0.length ≤ c0) (hG : GG w) (h : relation_WriteList.f k l0 = some (t, z)) (hz : t.size ≤ 1099511627776) :
    Calls Tryd.prog 35 #[.iface 66 (.slice A0 l0.length c0)] w fun e w' => e = .returned (.string (request_Write.line request_Write.forbW t)) ∧ Below w.heap.size w w' := by
  have HG := Aside0.mk hG
  have HR := Aside0.mk hr0
  have HC := Aside0.mk hc0
  have HH := Aside0.mk h
  have hw : request_Write.forbW.size ≤ 7 := (by decide)
  have hs1 : (9223372036854775807 < request_Write.forbW.size + 1) = False := eq_false (by omega)
  have hs2 : (9223372036854775807 < request_Write.forbW.size + 1 + t.size) = False := eq_false (by omega)
  have hs3 : (9223372036854775807 < request_Write.forbW.size + 1 + t.size + 1) = False := eq_false (by omega)
  clear hG hr0 hc0 h hw
  have hta := request_Write.ta_fi
  have htb := request_Write.ta_ff
  have hwd := request_Write.wd_f
  go_enter Tryd.func35, Tryd.ntmps35
  go_wp2_with (first | (go_at_call 56; refine (relation_WriteList.calls k A0 c0 l0 t z _ (by first | exact HR.out | exact Kd.C_alloc HR.out _) HC.out (by first | exact HG.out | exact GG.below HG.out ((Below.refl _ _).alloc (Nat.le_refl _) _)) HH.out).mono ?_; rintro e w1 ⟨rfl, hb⟩; have HB := Aside0.mk hb; clear hb) | (refine (request_Write.word_f _ _).mono ?_; rintro e w2 ⟨rfl, rfl⟩))
  go_ret
  exact ⟨rfl, HB.out⟩
set_option maxHeartbeats 4000000 in
set_option maxRecDepth 100000 in
theorem request_Write.told_wish (k : Nat) (b : Bool) (A0 : Option Addr) (c0 : Nat) (l0 : List S46) (t : ByteArray) (z : Int) (w : World) (hr0 : Kd.C k46 w A0 l0.length l0) (hc0 : l0.length ≤ c0) (hG : GG w) (h : relation_WriteList.f k l0 = some (t, z)) (hz : t.size ≤ 1099511627776) :
    Calls Tryd.prog 35 #[.iface 68 (.agg #[.bool b, .slice A0 l0.length c0])] w fun e w' => e = .returned (.string (request_Write.line (request_Write.wishW b) t)) ∧ Below w.heap.size w w' := by
  have HG := Aside0.mk hG
  have HR := Aside0.mk hr0
  have HC := Aside0.mk hc0
  have HH := Aside0.mk h
  have hw : (request_Write.wishW b).size ≤ 7 := (by cases b <;> decide)
  have hs1 : (9223372036854775807 < (request_Write.wishW b).size + 1) = False := eq_false (by omega)
  have hs2 : (9223372036854775807 < (request_Write.wishW b).size + 1 + t.size) = False := eq_false (by omega)
  have hs3 : (9223372036854775807 < (request_Write.wishW b).size + 1 + t.size + 1) = False := eq_false (by omega)
  clear hG hr0 hc0 h hw
  have hta := request_Write.ta_wi
  have htb := request_Write.ta_wf
  have htc := request_Write.ta_ww
  have huw := Tryd.underlying68
  have hwd := request_Write.wd_w
  go_enter Tryd.func35, Tryd.ntmps35
  go_wp2_with (first | (go_at_call 56; refine (relation_WriteList.calls k A0 c0 l0 t z _ (by first | exact HR.out | exact Kd.C_alloc HR.out _) HC.out (by first | exact HG.out | exact GG.below HG.out ((Below.refl _ _).alloc (Nat.le_refl _) _)) HH.out).mono ?_; rintro e w1 ⟨rfl, hb⟩; have HB := Aside0.mk hb; clear hb) | (refine (request_Write.word_w b _ _).mono ?_; rintro e w2 ⟨rfl, hb2⟩))
  go_ret
  exact ⟨rfl, (((Below.refl _ _).alloc (Nat.le_refl _) _).trans (HB.out.mono (by simp))).trans (hb2.mono (by have h_ := HB.out.size; simp at h_; omega))⟩
def request_Write.ins (k : Nat) : List (List S46) → List UInt8 → Option (List UInt8)
  | [], a => some a
  | x :: l, a => (relation_Write.f k [x]).bind fun t => if (a ++ (request_Write.line request_Write.insW t.1).data.toList).length ≤ 1099511627776 then request_Write.ins k l (a ++ (request_Write.line request_Write.insW t.1).data.toList) else none
def request_Write.forb (k : Nat) : List S46 → List UInt8 → Option (List UInt8)
  | [], a => some a
  | x :: l, a => (relation_WriteList.f k [x]).bind fun t => if (a ++ (request_Write.line request_Write.forbW t.1).data.toList).length ≤ 1099511627776 then request_Write.forb k l (a ++ (request_Write.line request_Write.forbW t.1).data.toList) else none
def request_Write.wis (k : Nat) : List S48 → List UInt8 → Option (List UInt8)
  | [], a => some a
  | x :: l, a => (relation_WriteList.f k [x.f1]).bind fun t => if (a ++ (request_Write.line (request_Write.wishW x.f0) t.1).data.toList).length ≤ 1099511627776 then request_Write.wis k l (a ++ (request_Write.line (request_Write.wishW x.f0) t.1).data.toList) else none
def request_Write.f (k : Nat) (l0_0 : List (List S46)) (l0_1 : List S46) (l0_2 : List S48) : Option (ByteArray × Int) :=
  (request_Formed.f k l0_0 l0_1 l0_2).bind fun t => if t = true then (request_Write.ins k l0_0 []).bind fun a => (request_Write.forb k l0_1 a).bind fun b => (request_Write.wis k l0_2 b).bind fun c => some (⟨c.toArray⟩, 0) else some (⟨#[]⟩, 1)
theorem request_Write.ins_mono (k : Nat) : ∀ l a, LeO (request_Write.ins k l a) (request_Write.ins (k + 1) l a)
  | [], a => LeO.refl _
  | x :: l, a => LeO.bind (relation_Write.mono _ _) (fun t => LeO.ite (request_Write.ins_mono k l _) (LeO.none _))
theorem request_Write.forb_mono (k : Nat) : ∀ l a, LeO (request_Write.forb k l a) (request_Write.forb (k + 1) l a)
  | [], a => LeO.refl _
  | x :: l, a => LeO.bind (relation_WriteList.mono _ _) (fun t => LeO.ite (request_Write.forb_mono k l _) (LeO.none _))
theorem request_Write.wis_mono (k : Nat) : ∀ l a, LeO (request_Write.wis k l a) (request_Write.wis (k + 1) l a)
  | [], a => LeO.refl _
  | x :: l, a => LeO.bind (relation_WriteList.mono _ _) (fun t => LeO.ite (request_Write.wis_mono k l _) (LeO.none _))
theorem request_Write.mono : ∀ a0 a1 a2 k, LeO (request_Write.f k a0 a1 a2) (request_Write.f (k + 1) a0 a1 a2) := by
  intro a0 a1 a2 k
  unfold request_Write.f
  refine LeO.bind (request_Formed.mono _ _ _ _) (fun t => ?_)
  refine LeO.ite ?_ (LeO.refl _)
  exact LeO.bind (request_Write.ins_mono k _ _) (fun a => LeO.bind (request_Write.forb_mono k _ _) (fun b => LeO.bind (request_Write.wis_mono k _ _) (fun c => LeO.refl _)))
theorem request_Write.slice_at {w : World} {A : Option Addr} {n : Nat} {xs : List (List S46)} (h : Kd.C (Kd.slice 46 k46) w A n xs) (j : Nat) (o : List S46) (hj : xs[j]? = some o) :
    ∃ ad A0 c0, A = some ad ∧ w.cell? (ad.add j) = some (.slice A0 o.length c0) ∧ o.length ≤ c0 ∧ Kd.C k46 w A0 o.length o := by
  have hl : j < xs.length := (List.getElem?_eq_some_iff.1 hj).1
  obtain ⟨ad, rfl, hc⟩ := h.2.2 (by have := h.1; omega)
  obtain ⟨c, _, ⟨A0, c0, rfl, l0, g0⟩, hu⟩ := hc j o hj
  have := hu 0 _ rfl
  rw [show j * (Kd.slice 46 k46).sz + 0 = j from Nat.mul_one j] at this
  exact ⟨ad, A0, c0, rfl, this, l0, g0⟩
theorem request_Write.one_slice {w : World} {b T : Nat} {fz : Nat × Nat} {A : Option Addr} {c : Nat} {o : List S46} (hb : w.heap[b]? = some (.cells #[.slice A o.length c] T fz)) (hc : o.length ≤ c) (hr : Kd.C k46 w A o.length o) :
    Kd.C (Kd.slice 46 k46) w (some ⟨b, 0, none⟩) [o].length [o] := by
  refine ⟨rfl, by simp, fun _ => ⟨_, rfl, ?_⟩⟩
  intro j p hj
  match j, hj with
  | 0, hj =>
    obtain rfl := Option.some.inj hj
    refine ⟨[.slice A o.length c], rfl, ⟨A, c, rfl, hc, hr⟩, ?_⟩
    intro i u hu
    match i, hu with
    | 0, hu =>
      obtain rfl := Option.some.inj hu
      exact (Lib.cell_of_heap hb 0).trans rfl
theorem request_Write.one_rel {w : World} {b T : Nat} {fz : Nat × Nat} {x : S46} (hb : w.heap[b]? = some (.cells #[.string x.f0, .int .i64 x.f1, .string x.f2] T fz)) :
    Kd.C k46 w (some ⟨b, 0, none⟩) [x].length [x] := by
  refine ⟨rfl, by simp, fun _ => ⟨_, rfl, ?_⟩⟩
  intro j p hj
  match j, hj with
  | 0, hj =>
    obtain rfl := Option.some.inj hj
    refine ⟨[.string x.f0, .int .i64 x.f1, .string x.f2], rfl, k46_mk w x, ?_⟩
    intro i u hu
    match i, hu with
    | 0, hu => obtain rfl := Option.some.inj hu; exact (Lib.cell_of_heap hb 0).trans rfl
    | 1, hu => obtain rfl := Option.some.inj hu; exact (Lib.cell_of_heap hb 1).trans rfl
    | 2, hu => obtain rfl := Option.some.inj hu; exact (Lib.cell_of_heap hb 2).trans rfl
theorem request_Write.alloc_at2 (w : World) (o1 o2 : Obj) : ((w.alloc o1).alloc o2).heap[w.heap.size + 1]? = some o2 := by
  have h := Go.Proofs.YtmocooihkobdjaaDoor.Builder.alloc_at (w.alloc o1) o2
  have e : (w.alloc o1).heap.size = w.heap.size + 1 := by simp
  rw [e] at h
  exact h
set_option maxHeartbeats 8000000 in
set_option maxRecDepth 100000 in
theorem request_Write.calls (k : Nat) (A0_0 : Option Addr) (c0_0 : Nat) (l0_0 : List (List S46)) (A0_1 : Option Addr) (c0_1 : Nat) (l0_1 : List S46) (A0_2 : Option Addr) (c0_2 : Nat) (l0_2 : List S48) (r1 : ByteArray) (r2 : Int) (w : World) (hr0_0 : Kd.C (Kd.slice 46 k46) w A0_0 l0_0.length l0_0) (hc0_0 : l0_0.length ≤ c0_0) (hr0_1 : Kd.C k46 w A0_1 l0_1.length l0_1) (hc0_1 : l0_1.length ≤ c0_1) (hr0_2 : Kd.C k48 w A0_2 l0_2.length l0_2) (hc0_2 : l0_2.length ≤ c0_2) (hG : GG w) (h : request_Write.f k l0_0 l0_1 l0_2 = some (r1, r2)) :
    Calls Tryd.prog 17 #[.agg #[.slice A0_0 l0_0.length c0_0, .slice A0_1 l0_1.length c0_1, .slice A0_2 l0_2.length c0_2]] w fun e w' => e = .returned (.tuple #[.string r1, .int .i64 r2]) ∧ Below w.heap.size w w' := by
  have hu26 := Tryd.underlying26
  have hu46 := Tryd.underlying46
  have hu48 := Tryd.underlying48
  have HR0 := Aside0.mk hr0_0
  have HC0 := Aside0.mk hc0_0
  have HR1 := Aside0.mk hr0_1
  have HC1 := Aside0.mk hc0_1
  have HR2 := Aside0.mk hr0_2
  have HC2 := Aside0.mk hc0_2
  have HG := Aside0.mk hG
  clear hr0_0 hc0_0 hr0_1 hc0_1 hr0_2 hc0_2 hG
  unfold request_Write.f at h
  obtain ⟨t, ht, h⟩ := Option.bind_eq_some_iff.mp h
  have HF := Aside0.mk ht
  clear ht
  have hlen0 := HR0.out.2.1
  have hlen1 := HR1.out.2.1
  have hlen2 := HR2.out.2.1
  cases t with
  | false =>
    have HZ := Aside0.mk (show (⟨#[]⟩ : ByteArray) = r1 ∧ (1 : Int) = r2 by simpa using h)
    clear h
    go_enter Tryd.func17, Tryd.ntmps17
    go_wp2_with (go_at_call 11; refine (request_Formed.calls k _ _ l0_0 _ _ l0_1 _ _ l0_2 false _ (Kd.C_alloc HR0.out _) HC0.out (Kd.C_alloc HR1.out _) HC1.out (Kd.C_alloc HR2.out _) HC2.out (GG.below HG.out ((Below.refl _ _).alloc (Nat.le_refl _) _)) HF.out).mono ?_; rintro e w1 ⟨rfl, hb⟩; have HB := Aside0.mk hb; clear hb)
    go_ret2
    obtain ⟨z1, z2⟩ := HZ.out
    subst z1
    subst z2
    exact ⟨rfl, ((Below.refl _ _).alloc (Nat.le_refl _) _).trans (HB.out.mono (by simp))⟩
  | true =>
    simp only [if_true] at h
    obtain ⟨a, ha, h⟩ := Option.bind_eq_some_iff.mp h
    obtain ⟨b, hb, h⟩ := Option.bind_eq_some_iff.mp h
    obtain ⟨c, hc, h⟩ := Option.bind_eq_some_iff.mp h
    have HZ := Aside0.mk (show (⟨c.toArray⟩ : ByteArray) = r1 ∧ (0 : Int) = r2 by simpa using h)
    have HA := Aside0.mk ha
    have HBB := Aside0.mk hb
    have HCC := Aside0.mk hc
    clear h ha hb hc
    go_enter Tryd.func17, Tryd.ntmps17
    go_wp2_with (go_at_call 11; refine (request_Formed.calls k _ _ l0_0 _ _ l0_1 _ _ l0_2 true _ (Kd.C_alloc HR0.out _) HC0.out (Kd.C_alloc HR1.out _) HC1.out (Kd.C_alloc HR2.out _) HC2.out (GG.below HG.out ((Below.refl _ _).alloc (Nat.le_refl _) _)) HF.out).mono ?_; rintro e w1 ⟨rfl, hb⟩; have HB := Aside0.mk hb; have hk0 := (hb.block w.heap.size (by simp)).trans (Go.Proofs.YtmocooihkobdjaaDoor.Builder.alloc_at _ _); clear hb; have hlt0 : w.heap.size < w1.heap.size := (by have h_ := HB.out.size; simp at h_; omega); have hy : ∀ o, (w1.alloc o).heap[w.heap.size]? = some (.cells #[.slice A0_0 l0_0.length c0_0, .slice A0_1 l0_1.length c0_1, .slice A0_2 l0_2.length c0_2] 26 (0, 0)) := fun o => (Lib.alloc_old w1 o _ hlt0).trans hk0; have hx0 : ∀ o, (w1.alloc o).cell? ⟨w.heap.size, 0, none⟩ = some (.slice A0_0 l0_0.length c0_0) := fun o => (Lib.cell_of_heap (hy o) 0).trans rfl)
    have HBW := Aside0.mk (((Below.refl w.heap.size w).alloc (Nat.le_refl _) _).trans (HB.out.mono (by simp)) : Below w.heap.size w w1)
    clear hx0
    have hsz1 : w.heap.size ≤ w1.heap.size := Nat.le_of_lt hlt0
    go_loopg [17] l0_0.length (fun gg s17 wr => ∃ (x : Int) (acc : List UInt8), s17 = .int .i64 x ∧ 0 ≤ x ∧ x ≤ l0_0.length ∧ l0_0.length - x.toNat ≤ gg ∧ Aside0 (Below w1.heap.size w1 wr) ∧ Aside0 (Lib.IsBuilderF 59 5 w1.heap.size w1.heap.size (Lib.byteCells acc) wr) ∧ Aside0 (request_Write.ins k (l0_0.drop x.toNat) acc = some a))
    case atStart => exact ⟨0, [], rfl, Int.le_refl _, by omega, by omega, ⟨(Below.refl _ w1).alloc (Nat.le_refl _) _⟩, ⟨Go.Proofs.YtmocooihkobdjaaDoor.Builder.keeps (Lib.IsBuilderF.of (Lib.fresh_isBuilder 59 5 w1)) (Below.refl _ _)⟩, HA⟩
    case round =>
      obtain ⟨x, acc, rfl, x0, x1, hg, HBr, HI, HN⟩ := hrel
      clear HA
      have hsz : w1.heap.size < wr.heap.size := by
        rcases HI.out with h | h
        · exact h.lt
        · exact h.lt
      have HWr := Aside0.mk (HBW.out.trans (HBr.out.mono hsz1) : Below w.heap.size w wr)
      by_cases hlt : x < (l0_0.length : Int)
      · have hltb : decide (x < (l0_0.length : Int)) = true := decide_eq_true hlt
        have hxn : x.toNat < l0_0.length := by omega
        obtain ⟨g, rfl⟩ : ∃ g, gk = g + 1 := ⟨gk - 1, by omega⟩
        obtain ⟨o, ho⟩ : ∃ o, l0_0[x.toNat]? = some o := ⟨_, List.getElem?_eq_getElem hxn⟩
        have hdr : l0_0.drop x.toNat = o :: l0_0.drop (x.toNat + 1) := by
          rw [List.drop_eq_getElem_cons hxn]
          congr 1
          exact Option.some.inj ((List.getElem?_eq_getElem hxn).symm.trans ho)
        have H := HN.out
        rw [hdr, request_Write.ins] at H
        obtain ⟨⟨t, z⟩, ht, H⟩ := Option.bind_eq_some_iff.mp H
        simp only at H
        split at H
        case isFalse => cases H
        case isTrue hb =>
        have hb' : acc.length + (request_Write.line request_Write.insW t).size ≤ 1099511627776 := by
          rw [List.length_append] at hb
          have : (request_Write.line request_Write.insW t).data.toList.length = (request_Write.line request_Write.insW t).size := by simp
          omega
        have hts : t.size ≤ 1099511627776 := by
          have : t.size ≤ (request_Write.line request_Write.insW t).size := by
            unfold request_Write.line
            rw [ByteArray.size_append, ByteArray.size_append]
            omega
          omega
        have HT := Aside0.mk ht
        have HH := Aside0.mk H
        have HBD := Aside0.mk hb'
        clear H ht hb hb' HN hdr
        obtain ⟨ad, Ai, ci, rfl, hcell, hci, hki⟩ := request_Write.slice_at HR0.out x.toNat o ho
        have hxc := (HWr.out.cell (World.block_lt_of_cell? w _ hcell)).trans hcell
        have HKI := Aside0.mk (Kd.C_below hki HWr.out)
        clear hcell hki ho
        have p0 := eq_true x0
        have p1 := eq_true hlt
        have Hx := Aside0.mk (show x.toNat + 1 = (x + 1).toNat ∧ 0 ≤ x + 1 ∧ x + 1 ≤ l0_0.length ∧ l0_0.length - (x + 1).toNat ≤ g by omega)
        have hzs : w.heap.size ≤ wr.heap.size := by omega
        go_wp2_with (first | (go_at_call 35; refine (request_Write.told_install k (some ⟨wr.heap.size, 0, none⟩) 1 [o] t z _ (request_Write.one_slice (Go.Proofs.YtmocooihkobdjaaDoor.Builder.alloc_at _ _) hci (Kd.C_alloc HKI.out _)) (Nat.le_refl 1) (GG.below HG.out (HWr.out.alloc hzs _)) HT.out hts).mono ?_; rintro e w3 ⟨rfl, hb3⟩; have B3 := Aside0.mk (((Below.refl wr.heap.size wr).alloc (Nat.le_refl _) _).trans (hb3.mono (by simp)) : Below wr.heap.size wr w3); clear hb3) | (go_at_call 34; refine (Go.Proofs.YtmocooihkobdjaaDoor.Builder.writeString w1.heap.size w1.heap.size _ _ _ (Go.Proofs.YtmocooihkobdjaaDoor.Builder.keeps HI.out B3.out) (by rw [Lib.byteCells_length]; have := HBD.out; omega) (by have h_ := B3.out.size; omega)).mono ?_; rintro e w4 ⟨rfl, h4, b4, _⟩; have H4 := Aside0.mk h4; have B4 := Aside0.mk (HBr.out.trans ((B3.out.mono (Nat.le_of_lt hsz)).trans b4)); clear h4 b4))
        go_roundg g
        case measure => exact Nat.lt_succ_self g
        case rel =>
          refine ⟨x + 1, _, rfl, Hx.out.2.1, Hx.out.2.2.1, Hx.out.2.2.2, B4, ⟨?_⟩, ⟨by rw [← Hx.out.1]; exact HH.out⟩⟩
          rw [Lib.byteCells_append, ← Lib.strCells_eq]
          exact Or.inr H4.out
      · have hltb : decide (x < (l0_0.length : Int)) = false := decide_eq_false hlt
        have p1 := eq_false hlt
        have hxe : x.toNat = l0_0.length := by omega
        have H := HN.out
        rw [hxe, List.drop_length, request_Write.ins] at H
        obtain rfl := Option.some.inj H
        clear H HN
        have hkr := (HBr.out.block w.heap.size hlt0).trans hk0
        have hx1 : wr.cell? ⟨w.heap.size, 1, none⟩ = some (.slice A0_1 l0_1.length c0_1) := (Lib.cell_of_heap hkr 1).trans rfl
        go_wp2
        clear HWr hkr hx1 x0 x1 hg hltb p1 hlt hxe
        go_loopg [30] l0_1.length (fun gg s17 wr => ∃ (x : Int) (acc : List UInt8), s17 = .int .i64 x ∧ 0 ≤ x ∧ x ≤ l0_1.length ∧ l0_1.length - x.toNat ≤ gg ∧ Aside0 (Below w1.heap.size w1 wr) ∧ Aside0 (Lib.IsBuilderF 59 5 w1.heap.size w1.heap.size (Lib.byteCells acc) wr) ∧ Aside0 (request_Write.forb k (l0_1.drop x.toNat) acc = some b))
        case atStart => exact ⟨0, _, rfl, Int.le_refl _, by omega, by omega, HBr, HI, HBB⟩
        case round =>
          clear HBB HBr HI hsz
          obtain ⟨x, acc, rfl, x0, x1, hg, HBr, HI, HN⟩ := hrel
          have hsz : w1.heap.size < wr.heap.size := by
            rcases HI.out with h | h
            · exact h.lt
            · exact h.lt
          have HWr := Aside0.mk (HBW.out.trans (HBr.out.mono hsz1) : Below w.heap.size w wr)
          by_cases hlt : x < (l0_1.length : Int)
          · have hltb : decide (x < (l0_1.length : Int)) = true := decide_eq_true hlt
            have hxn : x.toNat < l0_1.length := by omega
            obtain ⟨g, rfl⟩ : ∃ g, gk = g + 1 := ⟨gk - 1, by omega⟩
            have hdr : l0_1.drop x.toNat = rd_T46 l0_1 x :: l0_1.drop (x.toNat + 1) := by
              rw [List.drop_eq_getElem_cons hxn]
              congr 1
              unfold rd_T46
              rw [List.getD_eq_getElem?_getD, List.getElem?_eq_getElem hxn, Option.getD_some]
            have H := HN.out
            rw [hdr, request_Write.forb] at H
            obtain ⟨⟨t, z⟩, ht, H⟩ := Option.bind_eq_some_iff.mp H
            simp only at H
            split at H
            case isFalse => cases H
            case isTrue hb =>
            have hb' : acc.length + (request_Write.line request_Write.forbW t).size ≤ 1099511627776 := by
              rw [List.length_append] at hb
              have : (request_Write.line request_Write.forbW t).data.toList.length = (request_Write.line request_Write.forbW t).size := by simp
              omega
            have hts : t.size ≤ 1099511627776 := by
              have : t.size ≤ (request_Write.line request_Write.forbW t).size := by
                unfold request_Write.line
                rw [ByteArray.size_append, ByteArray.size_append]
                omega
              omega
            have HT := Aside0.mk ht
            have HH := Aside0.mk H
            have HBD := Aside0.mk hb'
            clear H ht hb hb' HN hdr
            obtain ⟨ad, ead, hx0, hx1, hx2⟩ := at_T46 HR1.out x x0 hlt
            cases ead
            replace hx0 := (HWr.out.cell (World.block_lt_of_cell? w _ hx0)).trans hx0
            replace hx1 := (HWr.out.cell (World.block_lt_of_cell? w _ hx1)).trans hx1
            replace hx2 := (HWr.out.cell (World.block_lt_of_cell? w _ hx2)).trans hx2
            have p0 := eq_true x0
            have p1 := eq_true hlt
            have Hx := Aside0.mk (show x.toNat + 1 = (x + 1).toNat ∧ 0 ≤ x + 1 ∧ x + 1 ≤ l0_1.length ∧ l0_1.length - (x + 1).toNat ≤ g by omega)
            have hzs : w.heap.size ≤ wr.heap.size := by omega
            go_wp2_with (first | (go_at_call 35; refine (request_Write.told_forbid k (some ⟨wr.heap.size + 1, 0, none⟩) 1 [rd_T46 l0_1 x] t z _ (request_Write.one_rel (request_Write.alloc_at2 wr _ _)) (Nat.le_refl 1) (GG.below HG.out ((HWr.out.alloc hzs _).alloc (by rw [World.size_alloc]; omega) _)) HT.out hts).mono ?_; rintro e w3 ⟨rfl, hb3⟩; have B3 := Aside0.mk ((((Below.refl wr.heap.size wr).alloc (Nat.le_refl _) _).alloc (by rw [World.size_alloc]; omega) _).trans (hb3.mono (by rw [World.size_alloc, World.size_alloc]; omega)) : Below wr.heap.size wr w3); clear hb3) | (go_at_call 34; refine (Go.Proofs.YtmocooihkobdjaaDoor.Builder.writeString w1.heap.size w1.heap.size _ _ _ (Go.Proofs.YtmocooihkobdjaaDoor.Builder.keeps HI.out B3.out) (by rw [Lib.byteCells_length]; have := HBD.out; omega) (by have h_ := B3.out.size; omega)).mono ?_; rintro e w4 ⟨rfl, h4, b4, _⟩; have H4 := Aside0.mk h4; have B4 := Aside0.mk (HBr.out.trans ((B3.out.mono (Nat.le_of_lt hsz)).trans b4)); clear h4 b4))
            go_roundg g
            case measure => exact Nat.lt_succ_self g
            case rel =>
              refine ⟨x + 1, _, rfl, Hx.out.2.1, Hx.out.2.2.1, Hx.out.2.2.2, B4, ⟨?_⟩, ⟨by rw [← Hx.out.1]; exact HH.out⟩⟩
              rw [Lib.byteCells_append, ← Lib.strCells_eq]
              exact Or.inr H4.out
          · have hltb : decide (x < (l0_1.length : Int)) = false := decide_eq_false hlt
            have p1 := eq_false hlt
            have hxe : x.toNat = l0_1.length := by omega
            have H := HN.out
            rw [hxe, List.drop_length, request_Write.forb] at H
            obtain rfl := Option.some.inj H
            clear H HN
            have hkr := (HBr.out.block w.heap.size hlt0).trans hk0
            have hx1 : wr.cell? ⟨w.heap.size, 2, none⟩ = some (.slice A0_2 l0_2.length c0_2) := (Lib.cell_of_heap hkr 2).trans rfl
            go_wp2
            clear HWr hkr hx1 x0 x1 hg hltb p1 hlt hxe
            go_loopg [43] l0_2.length (fun gg s17 wr => ∃ (x : Int) (acc : List UInt8), s17 = .int .i64 x ∧ 0 ≤ x ∧ x ≤ l0_2.length ∧ l0_2.length - x.toNat ≤ gg ∧ Aside0 (Below w1.heap.size w1 wr) ∧ Aside0 (Lib.IsBuilderF 59 5 w1.heap.size w1.heap.size (Lib.byteCells acc) wr) ∧ Aside0 (request_Write.wis k (l0_2.drop x.toNat) acc = some c))
            case atStart => exact ⟨0, _, rfl, Int.le_refl _, by omega, by omega, HBr, HI, HCC⟩
            case round =>
              clear HCC HBr HI hsz
              obtain ⟨x, acc, rfl, x0, x1, hg, HBr, HI, HN⟩ := hrel
              have hsz : w1.heap.size < wr.heap.size := by
                rcases HI.out with h | h
                · exact h.lt
                · exact h.lt
              have HWr := Aside0.mk (HBW.out.trans (HBr.out.mono hsz1) : Below w.heap.size w wr)
              by_cases hlt : x < (l0_2.length : Int)
              · have hltb : decide (x < (l0_2.length : Int)) = true := decide_eq_true hlt
                have hxn : x.toNat < l0_2.length := by omega
                obtain ⟨g, rfl⟩ : ∃ g, gk = g + 1 := ⟨gk - 1, by omega⟩
                have hdr : l0_2.drop x.toNat = rd_T48 l0_2 x :: l0_2.drop (x.toNat + 1) := by
                  rw [List.drop_eq_getElem_cons hxn]
                  congr 1
                  unfold rd_T48
                  rw [List.getD_eq_getElem?_getD, List.getElem?_eq_getElem hxn, Option.getD_some]
                have H := HN.out
                rw [hdr, request_Write.wis] at H
                obtain ⟨⟨t, z⟩, ht, H⟩ := Option.bind_eq_some_iff.mp H
                simp only at H
                split at H
                case isFalse => cases H
                case isTrue hb =>
                have hb' : acc.length + (request_Write.line (request_Write.wishW (rd_T48 l0_2 x).f0) t).size ≤ 1099511627776 := by
                  rw [List.length_append] at hb
                  have : (request_Write.line (request_Write.wishW (rd_T48 l0_2 x).f0) t).data.toList.length = (request_Write.line (request_Write.wishW (rd_T48 l0_2 x).f0) t).size := by simp
                  omega
                have hts : t.size ≤ 1099511627776 := by
                  have : t.size ≤ (request_Write.line (request_Write.wishW (rd_T48 l0_2 x).f0) t).size := by
                    unfold request_Write.line
                    rw [ByteArray.size_append, ByteArray.size_append]
                    omega
                  omega
                have HT := Aside0.mk ht
                have HH := Aside0.mk H
                have HBD := Aside0.mk hb'
                clear H ht hb hb' HN hdr
                obtain ⟨ad, ead, hx0, hx1, hx2, hx3⟩ := at_T48 HR2.out x x0 hlt
                cases ead
                replace hx0 := (HWr.out.cell (World.block_lt_of_cell? w _ hx0)).trans hx0
                replace hx1 := (HWr.out.cell (World.block_lt_of_cell? w _ hx1)).trans hx1
                replace hx2 := (HWr.out.cell (World.block_lt_of_cell? w _ hx2)).trans hx2
                replace hx3 := (HWr.out.cell (World.block_lt_of_cell? w _ hx3)).trans hx3
                have p0 := eq_true x0
                have p1 := eq_true hlt
                have Hx := Aside0.mk (show x.toNat + 1 = (x + 1).toNat ∧ 0 ≤ x + 1 ∧ x + 1 ≤ l0_2.length ∧ l0_2.length - (x + 1).toNat ≤ g by omega)
                have hzs : w.heap.size ≤ wr.heap.size := by omega
                go_wp2_with (first | (go_at_call 35; refine (request_Write.told_wish k (rd_T48 l0_2 x).f0 (some ⟨wr.heap.size + 1, 0, none⟩) 1 [(rd_T48 l0_2 x).f1] t z _ (request_Write.one_rel (request_Write.alloc_at2 wr _ _)) (Nat.le_refl 1) (GG.below HG.out ((HWr.out.alloc hzs _).alloc (by rw [World.size_alloc]; omega) _)) HT.out hts).mono ?_; rintro e w3 ⟨rfl, hb3⟩; have B3 := Aside0.mk ((((Below.refl wr.heap.size wr).alloc (Nat.le_refl _) _).alloc (by rw [World.size_alloc]; omega) _).trans (hb3.mono (by rw [World.size_alloc, World.size_alloc]; omega)) : Below wr.heap.size wr w3); clear hb3) | (go_at_call 34; refine (Go.Proofs.YtmocooihkobdjaaDoor.Builder.writeString w1.heap.size w1.heap.size _ _ _ (Go.Proofs.YtmocooihkobdjaaDoor.Builder.keeps HI.out B3.out) (by rw [Lib.byteCells_length]; have := HBD.out; omega) (by have h_ := B3.out.size; omega)).mono ?_; rintro e w4 ⟨rfl, h4, b4, _⟩; have H4 := Aside0.mk h4; have B4 := Aside0.mk (HBr.out.trans ((B3.out.mono (Nat.le_of_lt hsz)).trans b4)); clear h4 b4))
                go_roundg g
                case measure => exact Nat.lt_succ_self g
                case rel =>
                  refine ⟨x + 1, _, rfl, Hx.out.2.1, Hx.out.2.2.1, Hx.out.2.2.2, B4, ⟨?_⟩, ⟨by rw [← Hx.out.1]; exact HH.out⟩⟩
                  rw [Lib.byteCells_append, ← Lib.strCells_eq]
                  exact Or.inr H4.out
              · have hltb : decide (x < (l0_2.length : Int)) = false := decide_eq_false hlt
                have p1 := eq_false hlt
                have hxe : x.toNat = l0_2.length := by omega
                have H := HN.out
                rw [hxe, List.drop_length, request_Write.wis] at H
                obtain rfl := Option.some.inj H
                clear H HN
                have hw : w1.heap.size ≤ wr.heap.size := Nat.le_of_lt hsz
                go_wp2_with (go_at_call 36; refine (Go.Proofs.YtmocooihkobdjaaDoor.Builder.string w1.heap.size w1.heap.size _ _ HI.out hw).mono ?_; rintro e W2 ⟨rfl, _, b2, _⟩; have B2 := Aside0.mk b2; clear b2)
                go_ret2
                obtain ⟨z1, z2⟩ := HZ.out
                subst z1
                subst z2
                exact ⟨rfl, HBW.out.trans ((HBr.out.trans B2.out).mono hsz1)⟩
end Go.Proofs.YtmocooihkobdjaaDoor.G
end
section
namespace Go.Proofs.YtmocooihkobdjaaDoor.G
open Go.RowKit Go.Proofs.YtmocooihkobdjaaDoorW.PrintWords Go.Proofs.YtmocooihkobdjaaDoorW.PrintLast Go.Proofs.YtmocooihkobdjaaDoorW.PrintMore
attribute [local go_sem] max2_int min2_int max_two min_two max_three min_three max_four min_four
set_option linter.unusedVariables false
set_option linter.unusedSimpArgs false
mutual
def relation_kind.j0 : Nat → Int → Bool → Option (Int)
 | 0, _, _ => none
 | k + 1, x3, x4 => if x4 = true then (some 1) else (if x3 = 44 then (relation_kind.j1 k x3 (x3 == 44)) else (if x3 = 124 then (relation_kind.j1 k x3 (x3 == 124)) else (if x3 = 40 then (relation_kind.j1 k x3 (x3 == 40)) else (relation_kind.j1 k x3 (x3 == 41)))))
def relation_kind.j1 : Nat → Int → Bool → Option (Int)
 | 0, _, _ => none
 | k + 1, x3, x8 => if x8 = true then (some 2) else (if x3 = 60 then (some 3) else (if x3 = 61 then (some 3) else (if x3 = 62 then (some 3) else (some 0))))
end
def relation_kind.f (k : Nat) (a0 : Int) : Option (Int) := if a0 = 32 then (relation_kind.j0 k a0 (a0 == 32)) else (if a0 = 9 then (relation_kind.j0 k a0 (a0 == 9)) else (relation_kind.j0 k a0 (a0 == 10)))
theorem relation_kind.mono_l : ∀ k, (∀ y0 y1, LeO (relation_kind.j0 k y0 y1) (relation_kind.j0 (k + 1) y0 y1)) ∧ (∀ y0 y1, LeO (relation_kind.j1 k y0 y1) (relation_kind.j1 (k + 1) y0 y1))
 | 0 => ⟨fun _ _ r h => by simp [relation_kind.j0] at h, fun _ _ r h => by simp [relation_kind.j1] at h⟩
 | k + 1 => by
  obtain ⟨ih0, ih1⟩ := relation_kind.mono_l k
  refine ⟨?_, ?_⟩
  ·intro y0 y1
   unfold relation_kind.j0
   repeat' first
   | (with_reducible exact ih0 _ _)
   | (with_reducible exact ih1 _ _)
   | (with_reducible exact LeO.refl _)
   | (with_reducible exact LeO.none _)
   | (with_reducible refine LeO.ite ?_ ?_)
   | (with_reducible refine LeO.bind ?_ (fun _ => ?_))
   | exact ih0 _ _
   | exact ih1 _ _
   | exact LeO.none _
   | refine LeO.ite ?_ ?_
   | refine LeO.bind ?_ (fun _ => ?_)
  ·intro y0 y1
   unfold relation_kind.j1
   repeat' first
   | (with_reducible exact ih0 _ _)
   | (with_reducible exact ih1 _ _)
   | (with_reducible exact LeO.refl _)
   | (with_reducible exact LeO.none _)
   | (with_reducible refine LeO.ite ?_ ?_)
   | (with_reducible refine LeO.bind ?_ (fun _ => ?_))
   | exact ih0 _ _
   | exact ih1 _ _
   | exact LeO.none _
   | refine LeO.ite ?_ ?_
   | refine LeO.bind ?_ (fun _ => ?_)
theorem relation_kind.mono : ∀ a0 k, LeO (relation_kind.f k a0) (relation_kind.f (k + 1) a0) := by
 intro a0 k
 obtain ⟨ih0, ih1⟩ := relation_kind.mono_l k
 unfold relation_kind.f
 repeat' first
   | (with_reducible exact ih0 _ _)
   | (with_reducible exact ih1 _ _)
   | (with_reducible exact LeO.refl _)
   | (with_reducible exact LeO.none _)
   | (with_reducible refine LeO.ite ?_ ?_)
   | (with_reducible refine LeO.bind ?_ (fun _ => ?_))
   | exact ih0 _ _
   | exact ih1 _ _
   | exact LeO.none _
   | refine LeO.ite ?_ ?_
   | refine LeO.bind ?_ (fun _ => ?_)
set_option maxHeartbeats 8000000 in
set_option maxRecDepth 100000 in
theorem relation_kind.calls (k : Nat) (a0 : Int) (r : Int) (w : World) (h : relation_kind.f k a0 = some r) :
  Calls Tryd.prog 119 #[.int .u8 a0] w fun e w' => e = .returned (.int .i64 r) ∧ Drawn0 w w' := by
 have H : (if a0 = 32 then (relation_kind.j0 k a0 (a0 == 32)) else (if a0 = 9 then (relation_kind.j0 k a0 (a0 == 9)) else (relation_kind.j0 k a0 (a0 == 10)))) = some r := h
 clear h
 have HC2 := Aside0.mk H
 clear H
 go_enter Tryd.func119, Tryd.ntmps119
 go_upto_if 4 with (fail)
 go_cut [4] (fun v4 wc => ∃ (kq : Nat) (x4_1 : Bool), v4 = .bool x4_1 ∧ Aside0 (relation_kind.j0 kq a0 x4_1 = some r) ∧ Aside0 (kq ≤ k) ∧ Drawn0 w wc)
 case first =>
  have H := HC2.out
  clear HC2
  by_cases c3 : a0 = 32
  ·rw [if_pos c3] at H
   have c3b0 : (a0 == 32) = true := beq_iff_eq.mpr c3
   have c3b1 : (a0 != 32) = false := bne_eq_false_iff_eq.mpr c3
   clear c3
   (first | rw [c3b0] | (simp only [i64_w, i32_w]; rw [c3b0]) | skip)
   have H' := Aside0.mk H
   clear H
   go_wp2
   go_meet
   case rel => exact ⟨_, ((a0 == 32)), (by first | rfl | (simp; done) | (simp [*]; done)), H', ⟨by first | omega | exact Nat.le_refl _⟩, by repeat (first | exact Drawn0.refl _ | apply Drawn0.step)⟩
  ·rw [if_neg c3] at H
   have c3b0 : (a0 == 32) = false := beq_eq_false_iff_ne.mpr c3
   have c3b1 : (a0 != 32) = true := bne_iff_ne.mpr c3
   (first | rw [c3b0] | (simp only [i64_w, i32_w]; rw [c3b0]) | skip)
   by_cases c4 : a0 = 9
   ·rw [if_pos c4] at H
    have c4b0 : (a0 == 9) = true := beq_iff_eq.mpr c4
    have c4b1 : (a0 != 9) = false := bne_eq_false_iff_eq.mpr c4
    clear c4
    have H' := Aside0.mk H
    clear H
    go_wp2
    go_meet
    case rel => exact ⟨_, ((a0 == 9)), (by first | rfl | (simp; done) | (simp [*]; done)), H', ⟨by first | omega | exact Nat.le_refl _⟩, by repeat (first | exact Drawn0.refl _ | apply Drawn0.step)⟩
   ·rw [if_neg c4] at H
    have c4b0 : (a0 == 9) = false := beq_eq_false_iff_ne.mpr c4
    have c4b1 : (a0 != 9) = true := bne_iff_ne.mpr c4
    have H' := Aside0.mk H
    clear H
    go_wp2
    go_meet
    case rel => exact ⟨_, ((a0 == 10)), (by first | rfl | (simp; done) | (simp [*]; done)), H', ⟨by first | omega | exact Nat.le_refl _⟩, by repeat (first | exact Drawn0.refl _ | apply Drawn0.step)⟩
 case rest =>
  clear HC2
  try clear c1
  try clear p2
  try clear c3
  try clear c3b0
  try clear c3b1
  try clear c4
  try clear c4b0
  try clear c4b1
  obtain ⟨kq, x4_1, rfl, HA, HJ1, ⟨mc1, rfl⟩⟩ := hcut
  cases kq with
  | zero => exact absurd HA.out (by simp [relation_kind.j0])
  | succ kj1 =>
   have H := HA.out
   clear HA
   simp only [relation_kind.j0] at H
   by_cases c5 : x4_1 = true
   ·subst c5
    have H1 : (some 1) = some r := by rw [if_pos rfl] at H; exact H
    clear H
    have H := H1
    clear H1
    obtain rfl := Option.some.inj H
    go_wp2
    go_ret
    exact ⟨by first | rfl | (simp; done) | (simp [*]; done), by repeat (first | exact Drawn0.refl _ | apply Drawn0.step)⟩
   ·replace c5 := Bool.eq_false_iff.mpr c5
    subst c5
    have H1 : (if a0 = 44 then (relation_kind.j1 kj1 a0 (a0 == 44)) else (if a0 = 124 then (relation_kind.j1 kj1 a0 (a0 == 124)) else (if a0 = 40 then (relation_kind.j1 kj1 a0 (a0 == 40)) else (relation_kind.j1 kj1 a0 (a0 == 41))))) = some r := by rw [if_neg (show ¬ (false = true) by decide)] at H; exact H
    clear H
    have H := H1
    clear H1
    have HC6 := Aside0.mk H
    clear H
    go_upto_if 8 with (fail)
    go_cut [8] (fun v8 wc => ∃ (kq : Nat) (x8_5 : Bool), v8 = .bool x8_5 ∧ Aside0 (relation_kind.j1 kq a0 x8_5 = some r) ∧ Aside0 (kq ≤ kj1) ∧ Drawn0 w wc)
    case first =>
     have H := HC6.out
     clear HC6
     by_cases c7 : a0 = 44
     ·rw [if_pos c7] at H
      have c7b0 : (a0 == 44) = true := beq_iff_eq.mpr c7
      have c7b1 : (a0 != 44) = false := bne_eq_false_iff_eq.mpr c7
      clear c7
      (first | rw [c7b0] | (simp only [i64_w, i32_w]; rw [c7b0]) | skip)
      have H' := Aside0.mk H
      clear H
      go_wp2
      go_meet
      case rel => exact ⟨_, ((a0 == 44)), (by first | rfl | (simp; done) | (simp [*]; done)), H', ⟨by have := HJ1.out; first | omega | exact Nat.le_refl _⟩, by repeat (first | exact Drawn0.refl _ | apply Drawn0.step)⟩
     ·rw [if_neg c7] at H
      have c7b0 : (a0 == 44) = false := beq_eq_false_iff_ne.mpr c7
      have c7b1 : (a0 != 44) = true := bne_iff_ne.mpr c7
      (first | rw [c7b0] | (simp only [i64_w, i32_w]; rw [c7b0]) | skip)
      by_cases c8 : a0 = 124
      ·rw [if_pos c8] at H
       have c8b0 : (a0 == 124) = true := beq_iff_eq.mpr c8
       have c8b1 : (a0 != 124) = false := bne_eq_false_iff_eq.mpr c8
       clear c8
       have H' := Aside0.mk H
       clear H
       go_wp2
       go_meet
       case rel => exact ⟨_, ((a0 == 124)), (by first | rfl | (simp; done) | (simp [*]; done)), H', ⟨by have := HJ1.out; first | omega | exact Nat.le_refl _⟩, by repeat (first | exact Drawn0.refl _ | apply Drawn0.step)⟩
      ·rw [if_neg c8] at H
       have c8b0 : (a0 == 124) = false := beq_eq_false_iff_ne.mpr c8
       have c8b1 : (a0 != 124) = true := bne_iff_ne.mpr c8
       by_cases c9 : a0 = 40
       ·rw [if_pos c9] at H
        have c9b0 : (a0 == 40) = true := beq_iff_eq.mpr c9
        have c9b1 : (a0 != 40) = false := bne_eq_false_iff_eq.mpr c9
        clear c9
        have H' := Aside0.mk H
        clear H
        go_wp2
        go_meet
        case rel => exact ⟨_, ((a0 == 40)), (by first | rfl | (simp; done) | (simp [*]; done)), H', ⟨by have := HJ1.out; first | omega | exact Nat.le_refl _⟩, by repeat (first | exact Drawn0.refl _ | apply Drawn0.step)⟩
       ·rw [if_neg c9] at H
        have c9b0 : (a0 == 40) = false := beq_eq_false_iff_ne.mpr c9
        have c9b1 : (a0 != 40) = true := bne_iff_ne.mpr c9
        have H' := Aside0.mk H
        clear H
        go_wp2
        go_meet
        case rel => exact ⟨_, ((a0 == 41)), (by first | rfl | (simp; done) | (simp [*]; done)), H', ⟨by have := HJ1.out; first | omega | exact Nat.le_refl _⟩, by repeat (first | exact Drawn0.refl _ | apply Drawn0.step)⟩
    case rest =>
     clear HC6
     try clear c1
     try clear p2
     try clear c3
     try clear c3b0
     try clear c3b1
     try clear c4
     try clear c4b0
     try clear c4b1
     try clear c5
     try clear c7
     try clear c7b0
     try clear c7b1
     try clear c8
     try clear c8b0
     try clear c8b1
     try clear c9
     try clear c9b0
     try clear c9b1
     try clear p2
     obtain ⟨kq, x8_5, rfl, HA, HJ5, ⟨mc5, rfl⟩⟩ := hcut
     cases kq with
     | zero => exact absurd HA.out (by simp [relation_kind.j1])
     | succ kj5 =>
      have H := HA.out
      clear HA
      simp only [relation_kind.j1] at H
      by_cases c10 : x8_5 = true
      ·subst c10
       have H1 : (some 2) = some r := by rw [if_pos rfl] at H; exact H
       clear H
       have H := H1
       clear H1
       obtain rfl := Option.some.inj H
       go_wp2
       go_ret
       exact ⟨by first | rfl | (simp; done) | (simp [*]; done), by repeat (first | exact Drawn0.refl _ | apply Drawn0.step)⟩
      ·replace c10 := Bool.eq_false_iff.mpr c10
       subst c10
       have H1 : (if a0 = 60 then (some 3) else (if a0 = 61 then (some 3) else (if a0 = 62 then (some 3) else (some 0)))) = some r := by rw [if_neg (show ¬ (false = true) by decide)] at H; exact H
       clear H
       have H := H1
       clear H1
       by_cases c11 : a0 = 60
       ·rw [if_pos c11] at H
        have c11b0 : (a0 == 60) = true := beq_iff_eq.mpr c11
        have c11b1 : (a0 != 60) = false := bne_eq_false_iff_eq.mpr c11
        clear c11
        obtain rfl := Option.some.inj H
        go_wp2
        go_ret
        exact ⟨by first | rfl | (simp; done) | (simp [*]; done), by repeat (first | exact Drawn0.refl _ | apply Drawn0.step)⟩
       ·rw [if_neg c11] at H
        have c11b0 : (a0 == 60) = false := beq_eq_false_iff_ne.mpr c11
        have c11b1 : (a0 != 60) = true := bne_iff_ne.mpr c11
        by_cases c12 : a0 = 61
        ·rw [if_pos c12] at H
         have c12b0 : (a0 == 61) = true := beq_iff_eq.mpr c12
         have c12b1 : (a0 != 61) = false := bne_eq_false_iff_eq.mpr c12
         clear c12
         obtain rfl := Option.some.inj H
         go_wp2
         go_ret
         exact ⟨by first | rfl | (simp; done) | (simp [*]; done), by repeat (first | exact Drawn0.refl _ | apply Drawn0.step)⟩
        ·rw [if_neg c12] at H
         have c12b0 : (a0 == 61) = false := beq_eq_false_iff_ne.mpr c12
         have c12b1 : (a0 != 61) = true := bne_iff_ne.mpr c12
         by_cases c13 : a0 = 62
         ·rw [if_pos c13] at H
          have c13b0 : (a0 == 62) = true := beq_iff_eq.mpr c13
          have c13b1 : (a0 != 62) = false := bne_eq_false_iff_eq.mpr c13
          clear c13
          obtain rfl := Option.some.inj H
          go_wp2
          go_ret
          exact ⟨by first | rfl | (simp; done) | (simp [*]; done), by repeat (first | exact Drawn0.refl _ | apply Drawn0.step)⟩
         ·rw [if_neg c13] at H
          have c13b0 : (a0 == 62) = false := beq_eq_false_iff_ne.mpr c13
          have c13b1 : (a0 != 62) = true := bne_iff_ne.mpr c13
          obtain rfl := Option.some.inj H
          go_wp2
          go_ret
          exact ⟨by first | rfl | (simp; done) | (simp [*]; done), by repeat (first | exact Drawn0.refl _ | apply Drawn0.step)⟩
end Go.Proofs.YtmocooihkobdjaaDoor.G
end
section
namespace Go.Proofs.YtmocooihkobdjaaDoor.G
open Go.RowKit Go.Proofs.YtmocooihkobdjaaDoorW.PrintWords Go.Proofs.YtmocooihkobdjaaDoorW.PrintLast Go.Proofs.YtmocooihkobdjaaDoorW.PrintMore
attribute [local go_sem] max2_int min2_int max_two min_two max_three min_three max_four min_four
set_option linter.unusedVariables false
set_option linter.unusedSimpArgs false
def IsS135 (w0 W : World) (g : Nat) (f0 : ByteArray) (f1 : Int) : Prop := W.heap[g]? = some (.cells #[.string f0, .int .i64 f1] 135 (0, 0)) ∧ w0.heap.size ≤ g
theorem IsS135.grown {w0 W : World} {g : Nat} {f0 : ByteArray} {f1 : Int} {W1 : World} {row : Option Nat} (h : IsS135 w0 W g f0 f1) (hw : W.grownBy W1 row) (hne : some g ≠ row) : IsS135 w0 W1 g f0 f1 := by
 obtain ⟨hb, hg⟩ := h
 exact ⟨blk_grown hb hw hne, hg⟩
theorem IsS135.own_neN {w0 W : World} {g : Nat} {f0 : ByteArray} {f1 : Int} {α : Type} {d : Kd α} {e : Nat} {base : Nat} {ok : Nat → Prop} {v : Value} {xs : List α} (h : IsS135 w0 W g f0 f1) (ho : Kd.N d e W base ok v xs) (ht : e ≠ 135) : some g ≠ v.ownBlock := by
 obtain ⟨hb, hg⟩ := h
 exact Kd.N_ne ho hb ht
theorem IsS135.fresh {w0 W : World} {g : Nat} {f0 : ByteArray} {f1 : Int} (h : IsS135 w0 W g f0 f1) : ∀ k, W.heap.size ≤ k → k ≠ g := by
 obtain ⟨hb, hg⟩ := h
 exact Kd.freshB hb
theorem IsS135.kept {w0 W : World} {g : Nat} {f0 : ByteArray} {f1 : Int} {W1 : World} {S : Nat → Prop} (h : IsS135 w0 W g f0 f1) (hk : Kept W W1 S) (hne : ¬ S g) : IsS135 w0 W1 g f0 f1 := by
 obtain ⟨hb, hg⟩ := h
 exact ⟨blk_kept hb hk hne, hg⟩
theorem IsS135.below {w0 W : World} {g : Nat} {f0 : ByteArray} {f1 : Int} {W1 : World} (h : IsS135 w0 W g f0 f1) (hw : Below W.heap.size W W1) : IsS135 w0 W1 g f0 f1 := h.grown (grown_of_below hw none) (by simp)
theorem IsS135.alloc {w0 W : World} {g : Nat} {f0 : ByteArray} {f1 : Int} (h : IsS135 w0 W g f0 f1) (o : Obj) : IsS135 w0 (W.alloc o) g f0 f1 := h.below (below_alloc (Below.refl _ _) o)
theorem IsS135.drewN {w0 W : World} {g : Nat} {f0 : ByteArray} {f1 : Int} (h : IsS135 w0 W g f0 f1) (m : Nat) : IsS135 w0 (W.drewN m) g f0 f1 := h
theorem IsS135.drew {w0 W : World} {g : Nat} {f0 : ByteArray} {f1 : Int} (h : IsS135 w0 W g f0 f1) : IsS135 w0 W.drew g f0 f1 := h
theorem IsS135.at_ {w0 W : World} {g : Nat} {f0 : ByteArray} {f1 : Int} {w' : World} {m : Nat} (hq : W.drewN m = w') (h : IsS135 w0 W g f0 f1) : IsS135 w0 w' g f0 f1 := by subst hq; exact IsS135.drewN h m
theorem IsS135.apart {w0 W : World} {g : Nat} {f0 : ByteArray} {f1 : Int} {α : Type} {d : Kd α} {e : Nat} {base : Nat} {ok : Nat → Prop} {v : Value} {xs : List α} (h : IsS135 w0 W g f0 f1) (ho : d.R e W base ok v xs) (ht : ∀ q, q ∈ e :: d.E → q ≠ 135) : d.R e W base (fun k => ok k ∧ k ≠ g) v xs := by
 obtain ⟨hb, hg⟩ := h
 exact Kd.R_types ho hb ht
theorem IsS135.own_ne {w0 W : World} {g : Nat} {f0 : ByteArray} {f1 : Int} {α : Type} {d : Kd α} {e : Nat} {base : Nat} {ok : Nat → Prop} {v : Value} {xs : List α} (h : IsS135 w0 W g f0 f1) (ho : d.R e W base ok v xs) (ht : e ≠ 135) : some g ≠ v.ownBlock := by
 obtain ⟨hb, hg⟩ := h
 exact Kd.R_ne ho hb ht
theorem IsS135.apartQ {w0 W : World} {g : Nat} {f0 : ByteArray} {f1 : Int} {α : Type} {d : Kd α} {e : Nat} {base : Nat} {ok : Nat → Prop} {v : Value} {xs : List α} (h : IsS135 w0 W g f0 f1) (ho : d.Q e W base ok v xs) (ht : ∀ q, q ∈ e :: d.E → q ≠ 135) : d.Q e W base (fun k => ok k ∧ k ≠ g) v xs := by
 obtain ⟨hb, hg⟩ := h
 exact Kd.Q_types ho hb ht
theorem IsS135.own_neQ {w0 W : World} {g : Nat} {f0 : ByteArray} {f1 : Int} {α : Type} {d : Kd α} {e : Nat} {base : Nat} {ok : Nat → Prop} {v : Value} {xs : List α} (h : IsS135 w0 W g f0 f1) (ho : d.Q e W base ok v xs) (ht : e ≠ 135) : some g ≠ v.ownBlock := by
 obtain ⟨hb, hg⟩ := h
 exact Kd.Q_ne ho hb ht
theorem IsS135.apartS {w0 W : World} {g : Nat} {f0 : ByteArray} {f1 : Int} {α : Type} {d : Kd α} {e : Nat} {base : Nat} {ok : Nat → Prop} {v : Value} {xs : List α} (h : IsS135 w0 W g f0 f1) (ho : d.S e W base ok v xs) (ht : ∀ q, q ∈ e :: d.E → q ≠ 135) : d.S e W base (fun k => ok k ∧ k ≠ g) v xs := by
 obtain ⟨hb, hg⟩ := h
 exact Kd.S_types ho hb ht
theorem IsS135.own_neS {w0 W : World} {g : Nat} {f0 : ByteArray} {f1 : Int} {α : Type} {d : Kd α} {e : Nat} {base : Nat} {ok : Nat → Prop} {v : Value} {xs : List α} (h : IsS135 w0 W g f0 f1) (ho : d.S e W base ok v xs) (ht : e ≠ 135) : some g ≠ v.ownBlock := by
 obtain ⟨hb, hg⟩ := h
 exact Kd.S_ne ho hb ht
theorem IsS135.lt {w0 W : World} {g : Nat} {f0 : ByteArray} {f1 : Int} (h : IsS135 w0 W g f0 f1) : g < W.heap.size := by
 obtain ⟨hb, hg⟩ := h
 exact blk_lt hb
theorem IsS135.ge {w0 W : World} {g : Nat} {f0 : ByteArray} {f1 : Int} (h : IsS135 w0 W g f0 f1) : w0.heap.size ≤ g := by
 obtain ⟨hb, hg⟩ := h
 exact hg
theorem IsS135.ne_blk {w0 W : World} {g : Nat} {f0 : ByteArray} {f1 : Int} {a : Nat} {cs : Array Value} {t : TypeId} {fr : Nat × Nat} (h : IsS135 w0 W g f0 f1) (hb2 : W.heap[a]? = some (.cells cs t fr)) (ht : t ≠ 135) : g ≠ a := by
 obtain ⟨hb, hg⟩ := h
 rintro rfl
 rw [hb] at hb2
 injection hb2 with hb2
 injection hb2 with _ ht2
 exact ht ht2.symm
theorem IsS135.far {w0 W : World} {g : Nat} {f0 : ByteArray} {f1 : Int} {p : Addr} (h : IsS135 w0 W g f0 f1) (hne : g ≠ p.block) (u : Value) : IsS135 w0 (W.setCell p u) g f0 f1 := by
 obtain ⟨hb, hg⟩ := h
 exact ⟨blk_far hb hne u, hg⟩
theorem cellS135_0 {W : World} {g : Nat} {f0 : ByteArray} {f1 : Int} (h : W.heap[g]? = some (.cells #[.string f0, .int .i64 f1] 135 (0, 0))) : W.cell? ⟨g, 0, none⟩ = some (.string f0) := (blk_cell h 0).trans rfl
theorem IsS135.set_0 {w0 W : World} {g : Nat} {f0 : ByteArray} {f1 : Int} (h : IsS135 w0 W g f0 f1) (x : ByteArray) : IsS135 w0 (W.setCell ⟨g, 0, none⟩ (.string x)) g x f1 := by
 obtain ⟨hb, hg⟩ := h
 exact ⟨by simpa using blk_set hb 0 (.string x), hg⟩
theorem cellS135_1 {W : World} {g : Nat} {f0 : ByteArray} {f1 : Int} (h : W.heap[g]? = some (.cells #[.string f0, .int .i64 f1] 135 (0, 0))) : W.cell? ⟨g, 1, none⟩ = some (.int .i64 f1) := (blk_cell h 1).trans rfl
theorem IsS135.set_1 {w0 W : World} {g : Nat} {f0 : ByteArray} {f1 : Int} (h : IsS135 w0 W g f0 f1) (x : Int) : IsS135 w0 (W.setCell ⟨g, 1, none⟩ (.int .i64 x)) g f0 x := by
 obtain ⟨hb, hg⟩ := h
 exact ⟨by simpa using blk_set hb 1 (.int .i64 x), hg⟩
theorem IsS135.new (w0 W : World) (f0 : ByteArray) (f1 : Int) (hB : Below w0.heap.size w0 W) : IsS135 w0 (W.alloc (.cells #[.string f0, .int .i64 f1] 135)) W.heap.size f0 f1 := ⟨by simpa using heap_alloc_new W _, hB.size⟩
def relation_reader_gaps.l0 : Nat → ByteArray → Int → Option (ByteArray × Int)
 | 0, _, _ => none
 | k + 1, x1000, x1001 => if x1001 < (x1000.size : Int) then (if 0 ≤ x1001 then ((relation_kind.f k (bt x1000 x1001)).bind fun t189 => (if t189 = 1 then (relation_reader_gaps.l0 k x1000 (wrap64 (x1001 + 1))) else (some (x1000, x1001)))) else (none)) else (some (x1000, x1001))
def relation_reader_gaps.f (k : Nat) (s0_0 : ByteArray) (s0_1 : Int) : Option (ByteArray × Int) := relation_reader_gaps.l0 k s0_0 s0_1
theorem relation_reader_gaps.mono_l : ∀ k, (∀ y0 y1, LeO (relation_reader_gaps.l0 k y0 y1) (relation_reader_gaps.l0 (k + 1) y0 y1))
 | 0 => fun _ _ r h => by simp [relation_reader_gaps.l0] at h
 | k + 1 => by
  have ih0 := relation_reader_gaps.mono_l k
  ·intro y0 y1
   unfold relation_reader_gaps.l0
   repeat' first
   | (with_reducible exact ih0 _ _)
   | (with_reducible exact relation_kind.mono _ _)
   | (with_reducible exact LeO.refl _)
   | (with_reducible exact LeO.none _)
   | (with_reducible refine LeO.ite ?_ ?_)
   | (with_reducible refine LeO.bind ?_ (fun _ => ?_))
   | exact ih0 _ _
   | exact relation_kind.mono _ _
   | exact LeO.none _
   | refine LeO.ite ?_ ?_
   | refine LeO.bind ?_ (fun _ => ?_)
theorem relation_reader_gaps.mono : ∀ a0 a1 k, LeO (relation_reader_gaps.f k a0 a1) (relation_reader_gaps.f (k + 1) a0 a1) := by
 intro a0 a1 k
 have ih0 := relation_reader_gaps.mono_l k
 unfold relation_reader_gaps.f
 repeat' first
   | (with_reducible exact ih0 _ _)
   | (with_reducible exact relation_kind.mono _ _)
   | (with_reducible exact LeO.refl _)
   | (with_reducible exact LeO.none _)
   | (with_reducible refine LeO.ite ?_ ?_)
   | (with_reducible refine LeO.bind ?_ (fun _ => ?_))
   | exact ih0 _ _
   | exact relation_kind.mono _ _
   | exact LeO.none _
   | refine LeO.ite ?_ ?_
   | refine LeO.bind ?_ (fun _ => ?_)
set_option maxHeartbeats 8000000 in
set_option maxRecDepth 100000 in
theorem relation_reader_gaps.calls (k : Nat) (g : Nat) (s0_0 : ByteArray) (s0_1 : Int) (r1 : ByteArray) (r2 : Int) (w0 w : World) (hI : IsS135 w0 w g s0_0 s0_1) (hB : Below w0.heap.size w0 w) (h : relation_reader_gaps.f k s0_0 s0_1 = some (r1, r2)) :
  Calls Tryd.prog 107 #[.pointer (some ⟨g, 0, none⟩)] w fun e w' => e = .returned (.tuple #[]) ∧ IsS135 w0 w' g r1 r2 ∧ Below w0.heap.size w0 w' ∧ KeepBut w w' g none := by
 have HI0 := Aside0.mk hI
 have HK := Aside0.mk (KeepBut.refl w g none)
 have HL := Aside0.mk hB.size
 clear hI
 have HW0 := Aside0.mk hB.size
 have HB := Aside0.mk hB
 clear hB
 have H : (relation_reader_gaps.l0 k s0_0 s0_1) = some (r1, r2) := h
 clear h
 have H' := Aside0.mk H
 clear H
 go_enter Tryd.func107, Tryd.ntmps107
 go_wp2
 repeat (go_quiet (fail); try go_wp2)
 go_loopg [] k (fun kq w' => ∃ (x1001_1 : Int), Aside0 (relation_reader_gaps.l0 kq s0_0 x1001_1 = some (r1, r2)) ∧ Aside0 (kq ≤ k) ∧ Aside0 (IsS135 w0 w' g s0_0 x1001_1) ∧ Aside0 (KeepBut w w' g none) ∧ Aside0 (Below w0.heap.size w0 w'))
 case atStart => exact ⟨(s0_1), H', ⟨Nat.le_refl _⟩, ⟨by repeat (first | (with_reducible first | exact HI0.out | apply IsS135.alloc | apply IsS135.drewN | apply IsS135.drew | apply IsS135.set_0 | apply IsS135.set_1) | exact HI0.out)⟩, ⟨by repeat (first | (with_reducible first | exact HK.out | apply KeepBut.set_ | apply keep_drewN | apply keep_drew | apply keep_alloc) | exact HK.out)⟩, ⟨by repeat (first | (with_reducible first | exact HB.out | apply below_alloc | apply pw_below_drewN | apply below_drew1 | refine below_set ?_ (IsS135.ge HI0.out)) | exact HB.out)⟩⟩
 case round =>
  clear H'
  try clear c1
  obtain ⟨x1001_1, HA, HK1, HI0, HK, HB⟩ := hrel
  cases gk with
  | zero => exact absurd HA.out (by simp [relation_reader_gaps.l0])
  | succ k1 =>
   have H := HA.out
   clear HA
   simp only [relation_reader_gaps.l0] at H
   by_cases c2 : x1001_1 < (s0_0.size : Int)
   ·rw [if_pos c2] at H
    have c2b0 : decide (x1001_1 < (s0_0.size : Int)) = true := decide_eq_true c2
    clear c2
    by_cases c3 : 0 ≤ x1001_1
    ·rw [if_pos c3] at H
     have c3b0 : decide (0 ≤ x1001_1) = true := decide_eq_true c3
     clear c3
     replace H := Option.bind_eq_some_iff.mp H
     obtain ⟨t189, A50, H⟩ := H
     replace H : (if t189 = 1 then (relation_reader_gaps.l0 k1 s0_0 (wrap64 (x1001_1 + 1))) else (some (s0_0, x1001_1))) = some (r1, r2) := H
     have A5 := Aside0.mk A50
     clear A50
     by_cases c6 : t189 = 1
     ·rw [if_pos c6] at H
      have c6b0 : (t189 == 1) = true := beq_iff_eq.mpr c6
      have c6b1 : (t189 != 1) = false := bne_eq_false_iff_eq.mpr c6
      clear c6
      have H' := Aside0.mk H
      clear H
      obtain ⟨HGz7, hgz7⟩ := HI0.out
      have hcz7_0 := cellS135_0 HGz7
      have hcz7_1 := cellS135_1 HGz7
      have hfz7_0 := blk_frozen HGz7 0
      have hfz7_1 := blk_frozen HGz7 1
      clear HGz7 hgz7
      have p4 : 0 ≤ (x1001_1 : Int) := of_decide_eq_true (by first | (with_reducible assumption) | assumption)
      have q4 : x1001_1 < (s0_0.size : Int) := of_decide_eq_true (by first | (with_reducible assumption) | assumption)
      have hx4 := bt_at s0_0 x1001_1
      replace p4 := eq_true p4
      replace q4 := eq_true q4
      go_wp2_with (first | (go_at_call 119; (with_reducible refine (relation_kind.calls k1 (bt s0_0 x1001_1) t189 _ A5.out).mono ?_); rintro e w' ⟨rfl, ⟨nd, rfl⟩⟩; (try first | exact ⟨rfl, _, World.drewN_drewN _ _ _⟩ | exact ⟨rfl, _, Eq.trans (World.drewN_drewN _ _ _) (congrArg (World.drewN _) (Nat.add_assoc _ _ _))⟩)))
      repeat (go_quiet (first | (go_at_call 119; (with_reducible refine (relation_kind.calls k1 (bt s0_0 x1001_1) t189 _ A5.out).mono ?_); rintro e w' ⟨rfl, ⟨nd, rfl⟩⟩; (try first | exact ⟨rfl, _, World.drewN_drewN _ _ _⟩ | exact ⟨rfl, _, Eq.trans (World.drewN_drewN _ _ _) (congrArg (World.drewN _) (Nat.add_assoc _ _ _))⟩))); try go_wp2_with (first | (go_at_call 119; (with_reducible refine (relation_kind.calls k1 (bt s0_0 x1001_1) t189 _ A5.out).mono ?_); rintro e w' ⟨rfl, ⟨nd, rfl⟩⟩; (try first | exact ⟨rfl, _, World.drewN_drewN _ _ _⟩ | exact ⟨rfl, _, Eq.trans (World.drewN_drewN _ _ _) (congrArg (World.drewN _) (Nat.add_assoc _ _ _))⟩))))
      go_roundg k1
      case measure => have := HK1.out; omega
      case rel => exact ⟨(wrap64 (x1001_1 + 1)), H', ⟨by have := HK1.out; omega⟩, ⟨by repeat (first | (with_reducible first | exact HI0.out | apply IsS135.alloc | apply IsS135.drewN | apply IsS135.drew | apply IsS135.set_0 | apply IsS135.set_1) | exact HI0.out)⟩, ⟨by repeat (first | (with_reducible first | exact HK.out | apply KeepBut.set_ | apply keep_drewN | apply keep_drew | apply keep_alloc) | exact HK.out)⟩, ⟨by repeat (first | (with_reducible first | exact HB.out | apply below_alloc | apply pw_below_drewN | apply below_drew1 | refine below_set ?_ (IsS135.ge HI0.out)) | exact HB.out)⟩⟩
     ·rw [if_neg c6] at H
      have c6b0 : (t189 == 1) = false := beq_eq_false_iff_ne.mpr c6
      have c6b1 : (t189 != 1) = true := bne_iff_ne.mpr c6
      simp only [Option.some.injEq, Prod.mk.injEq] at H
      obtain ⟨rfl, rfl⟩ := H
      obtain ⟨HGz8, hgz8⟩ := HI0.out
      have hcz8_0 := cellS135_0 HGz8
      have hcz8_1 := cellS135_1 HGz8
      have hfz8_0 := blk_frozen HGz8 0
      have hfz8_1 := blk_frozen HGz8 1
      clear HGz8 hgz8
      have p4 : 0 ≤ (x1001_1 : Int) := of_decide_eq_true (by first | (with_reducible assumption) | assumption)
      have q4 : x1001_1 < (s0_0.size : Int) := of_decide_eq_true (by first | (with_reducible assumption) | assumption)
      have hx4 := bt_at s0_0 x1001_1
      replace p4 := eq_true p4
      replace q4 := eq_true q4
      go_wp2_with (first | (go_at_call 119; (with_reducible refine (relation_kind.calls k1 (bt s0_0 x1001_1) t189 _ A5.out).mono ?_); rintro e w' ⟨rfl, ⟨nd, rfl⟩⟩; (try first | exact ⟨rfl, _, World.drewN_drewN _ _ _⟩ | exact ⟨rfl, _, Eq.trans (World.drewN_drewN _ _ _) (congrArg (World.drewN _) (Nat.add_assoc _ _ _))⟩)))
      repeat (go_quiet (first | (go_at_call 119; (with_reducible refine (relation_kind.calls k1 (bt s0_0 x1001_1) t189 _ A5.out).mono ?_); rintro e w' ⟨rfl, ⟨nd, rfl⟩⟩; (try first | exact ⟨rfl, _, World.drewN_drewN _ _ _⟩ | exact ⟨rfl, _, Eq.trans (World.drewN_drewN _ _ _) (congrArg (World.drewN _) (Nat.add_assoc _ _ _))⟩))); try go_wp2_with (first | (go_at_call 119; (with_reducible refine (relation_kind.calls k1 (bt s0_0 x1001_1) t189 _ A5.out).mono ?_); rintro e w' ⟨rfl, ⟨nd, rfl⟩⟩; (try first | exact ⟨rfl, _, World.drewN_drewN _ _ _⟩ | exact ⟨rfl, _, Eq.trans (World.drewN_drewN _ _ _) (congrArg (World.drewN _) (Nat.add_assoc _ _ _))⟩))))
      first | go_end0 | ((try simp only [Exit.inBlock, Exit.then]); refine bodyPost_ret (results_none rfl _ _ _) rfl ?_)
      exact ⟨by first | rfl | (simp [errW_none, errW_some] <;> rfl) | (simp [*, errW_none, errW_some] <;> rfl) | (simp [errW_none, errW_some, Go.Proofs.YtmocooihkobdjaaDoor.listNe]; done), by repeat (first | (with_reducible first | exact HI0.out | apply IsS135.alloc | apply IsS135.drewN | apply IsS135.drew | apply IsS135.set_0 | apply IsS135.set_1) | exact HI0.out), by repeat (first | (with_reducible first | exact HB.out | apply below_alloc | apply pw_below_drewN | apply below_drew1 | refine below_set ?_ (IsS135.ge HI0.out)) | exact HB.out), by repeat (first | (with_reducible first | exact HK.out | apply KeepBut.set_ | apply keep_drewN | apply keep_drew | apply keep_alloc) | exact HK.out)⟩
    ·rw [if_neg c3] at H
     exact absurd H (by simp)
   ·rw [if_neg c2] at H
    have c2b0 : decide (x1001_1 < (s0_0.size : Int)) = false := decide_eq_false c2
    clear c2
    simp only [Option.some.injEq, Prod.mk.injEq] at H
    obtain ⟨rfl, rfl⟩ := H
    obtain ⟨HGz9, hgz9⟩ := HI0.out
    have hcz9_0 := cellS135_0 HGz9
    have hcz9_1 := cellS135_1 HGz9
    have hfz9_0 := blk_frozen HGz9 0
    have hfz9_1 := blk_frozen HGz9 1
    clear HGz9 hgz9
    go_wp2
    repeat (go_quiet (fail); try go_wp2)
    first | go_end0 | ((try simp only [Exit.inBlock, Exit.then]); refine bodyPost_ret (results_none rfl _ _ _) rfl ?_)
    exact ⟨by first | rfl | (simp [errW_none, errW_some] <;> rfl) | (simp [*, errW_none, errW_some] <;> rfl) | (simp [errW_none, errW_some, Go.Proofs.YtmocooihkobdjaaDoor.listNe]; done), by repeat (first | (with_reducible first | exact HI0.out | apply IsS135.alloc | apply IsS135.drewN | apply IsS135.drew | apply IsS135.set_0 | apply IsS135.set_1) | exact HI0.out), by repeat (first | (with_reducible first | exact HB.out | apply below_alloc | apply pw_below_drewN | apply below_drew1 | refine below_set ?_ (IsS135.ge HI0.out)) | exact HB.out), by repeat (first | (with_reducible first | exact HK.out | apply KeepBut.set_ | apply keep_drewN | apply keep_drew | apply keep_alloc) | exact HK.out)⟩
end Go.Proofs.YtmocooihkobdjaaDoor.G
end
section
namespace Go.Proofs.YtmocooihkobdjaaDoor.G
open Go.RowKit Go.Proofs.YtmocooihkobdjaaDoorW.PrintWords Go.Proofs.YtmocooihkobdjaaDoorW.PrintLast Go.Proofs.YtmocooihkobdjaaDoorW.PrintMore
attribute [local go_sem] max2_int min2_int max_two min_two max_three min_three max_four min_four
set_option linter.unusedVariables false
set_option linter.unusedSimpArgs false
def relation_reader_pass.f (k : Nat) (s0_0 : ByteArray) (s0_1 : Int) (a1 : Int) : Option (ByteArray × Int) := (relation_reader_gaps.f k s0_0 (wrap64 (s0_1 + a1))).bind fun bt190 => (some (bt190.1, bt190.2))
theorem relation_reader_pass.mono : ∀ a0 a1 a2 k, LeO (relation_reader_pass.f k a0 a1 a2) (relation_reader_pass.f (k + 1) a0 a1 a2) := by
 intro a0 a1 a2 k
 unfold relation_reader_pass.f
 repeat' first
   | (with_reducible exact relation_reader_gaps.mono _ _ _)
   | (with_reducible exact LeO.refl _)
   | (with_reducible exact LeO.none _)
   | (with_reducible refine LeO.ite ?_ ?_)
   | (with_reducible refine LeO.bind ?_ (fun _ => ?_))
   | exact relation_reader_gaps.mono _ _ _
   | exact LeO.none _
   | refine LeO.ite ?_ ?_
   | refine LeO.bind ?_ (fun _ => ?_)
set_option maxHeartbeats 8000000 in
set_option maxRecDepth 100000 in
theorem relation_reader_pass.calls (k : Nat) (g : Nat) (s0_0 : ByteArray) (s0_1 : Int) (a1 : Int) (r1 : ByteArray) (r2 : Int) (w0 w : World) (hI : IsS135 w0 w g s0_0 s0_1) (hB : Below w0.heap.size w0 w) (h : relation_reader_pass.f k s0_0 s0_1 a1 = some (r1, r2)) :
  Calls Tryd.prog 121 #[.pointer (some ⟨g, 0, none⟩), .int .i64 a1] w fun e w' => e = .returned (.tuple #[]) ∧ IsS135 w0 w' g r1 r2 ∧ Below w0.heap.size w0 w' ∧ KeepBut w w' g none := by
 have HI0 := Aside0.mk hI
 have HK := Aside0.mk (KeepBut.refl w g none)
 have HL := Aside0.mk hB.size
 clear hI
 have HW0 := Aside0.mk hB.size
 have HB := Aside0.mk hB
 clear hB
 have H : ((relation_reader_gaps.f k s0_0 (wrap64 (s0_1 + a1))).bind fun bt190 => (some (bt190.1, bt190.2))) = some (r1, r2) := h
 clear h
 replace H := Option.bind_eq_some_iff.mp H
 obtain ⟨⟨t190, t191⟩, A30, H⟩ := H
 replace H : (some (t190, t191)) = some (r1, r2) := H
 have A3 := Aside0.mk A30
 clear A30
 simp only [Option.some.injEq, Prod.mk.injEq] at H
 obtain ⟨rfl, rfl⟩ := H
 obtain ⟨HGz4, hgz4⟩ := HI0.out
 have hcz4_0 := cellS135_0 HGz4
 have hcz4_1 := cellS135_1 HGz4
 have hfz4_0 := blk_frozen HGz4 0
 have hfz4_1 := blk_frozen HGz4 1
 clear HGz4 hgz4
 go_enter Tryd.func121, Tryd.ntmps121
 go_wp2_with (first | ((with_reducible refine gate_callee (f := 107) rfl ?_); refine goesL_ (some 13) rfl rfl Tryd.func107 (by kernel_rfl) rfl #[.pointer (some ⟨g, 0, none⟩)] rfl (by (try simp only [List.map_toArray, List.map_cons, List.map_nil]); first | done | rfl | (simp only [List.length_drop, List.length_take]; rfl) | (simp; done)) ?_; (with_reducible refine (relation_reader_gaps.calls k g s0_0 (wrap64 (s0_1 + a1)) t190 t191 w0 _ ?side1 ?side2 A3.out).mono ?_); (case side1 => repeat (first | (with_reducible first | exact HI0.out | apply IsS135.alloc | apply IsS135.drewN | apply IsS135.drew | apply IsS135.set_0 | apply IsS135.set_1) | exact HI0.out)); (case side2 => repeat (first | (with_reducible first | exact HB.out | apply below_alloc | apply pw_below_drewN | apply below_drew1 | refine below_set ?_ (IsS135.ge HI0.out)) | exact HB.out)); rintro e w5 ⟨rfl, hi, hb, hk⟩; refine ⟨_, rfl, ?_⟩; have n0_ := Aside0.mk (KeepBut.trans (by repeat (first | (with_reducible first | exact HK.out | apply KeepBut.set_ | apply keep_drewN | apply keep_drew | apply keep_alloc) | exact HK.out)) hk (.inl rfl)); have n1_ := Aside0.mk (hb); have n2_ := Aside0.mk (hi); clear HK; clear HB; clear HI0; have HK := n0_; have HB := n1_; have HI0 := n2_; clear n0_ n1_ n2_; (try clear hb); (try clear hb2); (try clear hk); (try clear hi)))
 first | go_end0 | ((try simp only [Exit.inBlock, Exit.then]); refine bodyPost_ret (results_none rfl _ _ _) rfl ?_)
 exact ⟨by first | rfl | (simp [errW_none, errW_some] <;> rfl) | (simp [*, errW_none, errW_some] <;> rfl) | (simp [errW_none, errW_some, Go.Proofs.YtmocooihkobdjaaDoor.listNe]; done), by repeat (first | (with_reducible first | exact HI0.out | apply IsS135.alloc | apply IsS135.drewN | apply IsS135.drew | apply IsS135.set_0 | apply IsS135.set_1) | exact HI0.out), by repeat (first | (with_reducible first | exact HB.out | apply below_alloc | apply pw_below_drewN | apply below_drew1 | refine below_set ?_ (IsS135.ge HI0.out)) | exact HB.out), by repeat (first | (with_reducible first | exact HK.out | apply KeepBut.set_ | apply keep_drewN | apply keep_drew | apply keep_alloc) | exact HK.out)⟩
end Go.Proofs.YtmocooihkobdjaaDoor.G
end
section
namespace Go.Proofs.YtmocooihkobdjaaDoor.G
open Go.RowKit Go.Proofs.YtmocooihkobdjaaDoorW.PrintWords Go.Proofs.YtmocooihkobdjaaDoorW.PrintLast Go.Proofs.YtmocooihkobdjaaDoorW.PrintMore
attribute [local go_sem] max2_int min2_int max_two min_two max_three min_three max_four min_four
set_option linter.unusedVariables false
set_option linter.unusedSimpArgs false
def relation_reader_takes.f (k : Nat) (s0_0 : ByteArray) (s0_1 : Int) (a1 : Int) : Option (Bool × ByteArray × Int) := if s0_1 = (s0_0.size : Int) then (some (false, s0_0, s0_1)) else (if 0 ≤ s0_1 then (if s0_1 < (s0_0.size : Int) then (if (bt s0_0 s0_1) = a1 then ((relation_reader_pass.f k s0_0 s0_1 1).bind fun bt192 => (some (true, bt192.1, bt192.2))) else (some (false, s0_0, s0_1))) else (none)) else (none))
theorem relation_reader_takes.mono : ∀ a0 a1 a2 k, LeO (relation_reader_takes.f k a0 a1 a2) (relation_reader_takes.f (k + 1) a0 a1 a2) := by
 intro a0 a1 a2 k
 unfold relation_reader_takes.f
 repeat' first
   | (with_reducible exact relation_reader_pass.mono _ _ _ _)
   | (with_reducible exact LeO.refl _)
   | (with_reducible exact LeO.none _)
   | (with_reducible refine LeO.ite ?_ ?_)
   | (with_reducible refine LeO.bind ?_ (fun _ => ?_))
   | exact relation_reader_pass.mono _ _ _ _
   | exact LeO.none _
   | refine LeO.ite ?_ ?_
   | refine LeO.bind ?_ (fun _ => ?_)
set_option maxHeartbeats 8000000 in
set_option maxRecDepth 100000 in
theorem relation_reader_takes.calls (k : Nat) (g : Nat) (s0_0 : ByteArray) (s0_1 : Int) (a1 : Int) (r1 : Bool) (r2 : ByteArray) (r3 : Int) (w0 w : World) (hI : IsS135 w0 w g s0_0 s0_1) (hB : Below w0.heap.size w0 w) (h : relation_reader_takes.f k s0_0 s0_1 a1 = some (r1, r2, r3)) :
  Calls Tryd.prog 109 #[.pointer (some ⟨g, 0, none⟩), .int .u8 a1] w fun e w' => e = .returned (.bool r1) ∧ IsS135 w0 w' g r2 r3 ∧ Below w0.heap.size w0 w' ∧ KeepBut w w' g none := by
 have HI0 := Aside0.mk hI
 have HK := Aside0.mk (KeepBut.refl w g none)
 have HL := Aside0.mk hB.size
 clear hI
 have HW0 := Aside0.mk hB.size
 have HB := Aside0.mk hB
 clear hB
 have H : (if s0_1 = (s0_0.size : Int) then (some (false, s0_0, s0_1)) else (if 0 ≤ s0_1 then (if s0_1 < (s0_0.size : Int) then (if (bt s0_0 s0_1) = a1 then ((relation_reader_pass.f k s0_0 s0_1 1).bind fun bt192 => (some (true, bt192.1, bt192.2))) else (some (false, s0_0, s0_1))) else (none)) else (none))) = some (r1, r2, r3) := h
 clear h
 by_cases c3 : s0_1 = (s0_0.size : Int)
 ·rw [if_pos c3] at H
  have c3b0 : (s0_1 == (s0_0.size : Int)) = true := beq_iff_eq.mpr c3
  have c3b1 : (s0_1 != (s0_0.size : Int)) = false := bne_eq_false_iff_eq.mpr c3
  clear c3
  simp only [Option.some.injEq, Prod.mk.injEq] at H
  obtain ⟨rfl, rfl, rfl⟩ := H
  obtain ⟨HGz4, hgz4⟩ := HI0.out
  have hcz4_0 := cellS135_0 HGz4
  have hcz4_1 := cellS135_1 HGz4
  have hfz4_0 := blk_frozen HGz4 0
  have hfz4_1 := blk_frozen HGz4 1
  clear HGz4 hgz4
  go_enter Tryd.func109, Tryd.ntmps109
  go_wp2
  repeat (go_quiet (fail); try go_wp2)
  go_ret
  exact ⟨by first | rfl | (simp [errW_none, errW_some] <;> rfl) | (simp [*, errW_none, errW_some] <;> rfl) | (simp [errW_none, errW_some, Go.Proofs.YtmocooihkobdjaaDoor.listNe]; done), by repeat (first | (with_reducible first | exact HI0.out | apply IsS135.alloc | apply IsS135.drewN | apply IsS135.drew | apply IsS135.set_0 | apply IsS135.set_1) | exact HI0.out), by repeat (first | (with_reducible first | exact HB.out | apply below_alloc | apply pw_below_drewN | apply below_drew1 | refine below_set ?_ (IsS135.ge HI0.out)) | exact HB.out), by repeat (first | (with_reducible first | exact HK.out | apply KeepBut.set_ | apply keep_drewN | apply keep_drew | apply keep_alloc) | exact HK.out)⟩
 ·rw [if_neg c3] at H
  have c3b0 : (s0_1 == (s0_0.size : Int)) = false := beq_eq_false_iff_ne.mpr c3
  have c3b1 : (s0_1 != (s0_0.size : Int)) = true := bne_iff_ne.mpr c3
  by_cases c5 : 0 ≤ s0_1
  ·rw [if_pos c5] at H
   have c5b0 : decide (0 ≤ s0_1) = true := decide_eq_true c5
   clear c5
   by_cases c6 : s0_1 < (s0_0.size : Int)
   ·rw [if_pos c6] at H
    have c6b0 : decide (s0_1 < (s0_0.size : Int)) = true := decide_eq_true c6
    clear c6
    by_cases c8 : (bt s0_0 s0_1) = a1
    ·rw [if_pos c8] at H
     have c8b0 : ((bt s0_0 s0_1) == a1) = true := beq_iff_eq.mpr c8
     have c8b1 : ((bt s0_0 s0_1) != a1) = false := bne_eq_false_iff_eq.mpr c8
     clear c8
     replace H := Option.bind_eq_some_iff.mp H
     obtain ⟨⟨t192, t193⟩, A90, H⟩ := H
     replace H : (some (true, t192, t193)) = some (r1, r2, r3) := H
     have A9 := Aside0.mk A90
     clear A90
     simp only [Option.some.injEq, Prod.mk.injEq] at H
     obtain ⟨rfl, rfl, rfl⟩ := H
     obtain ⟨HGz10, hgz10⟩ := HI0.out
     have hcz10_0 := cellS135_0 HGz10
     have hcz10_1 := cellS135_1 HGz10
     have hfz10_0 := blk_frozen HGz10 0
     have hfz10_1 := blk_frozen HGz10 1
     clear HGz10 hgz10
     have p7 : 0 ≤ (s0_1 : Int) := of_decide_eq_true (by first | (with_reducible assumption) | assumption)
     have q7 : s0_1 < (s0_0.size : Int) := of_decide_eq_true (by first | (with_reducible assumption) | assumption)
     have hx7 := bt_at s0_0 s0_1
     replace p7 := eq_true p7
     replace q7 := eq_true q7
     go_enter Tryd.func109, Tryd.ntmps109
     go_wp2_with (first | (go_at_call 121; (with_reducible refine (relation_reader_pass.calls k g s0_0 s0_1 1 t192 t193 w0 _ ?side1 ?side2 A9.out).mono ?_); (case side1 => repeat (first | (with_reducible first | exact HI0.out | apply IsS135.alloc | apply IsS135.drewN | apply IsS135.drew | apply IsS135.set_0 | apply IsS135.set_1) | exact HI0.out)); (case side2 => repeat (first | (with_reducible first | exact HB.out | apply below_alloc | apply pw_below_drewN | apply below_drew1 | refine below_set ?_ (IsS135.ge HI0.out)) | exact HB.out)); rintro e w11 ⟨rfl, hi, hb, hk⟩; have n0_ := Aside0.mk (KeepBut.trans (by repeat (first | (with_reducible first | exact HK.out | apply KeepBut.set_ | apply keep_drewN | apply keep_drew | apply keep_alloc) | exact HK.out)) hk (.inl rfl)); have n1_ := Aside0.mk (hb); have n2_ := Aside0.mk (hi); clear HK; clear HB; clear HI0; have HK := n0_; have HB := n1_; have HI0 := n2_; clear n0_ n1_ n2_; (try clear hb); (try clear hb2); (try clear hk); (try clear hi)))
     repeat (go_quiet (first | (go_at_call 121; (with_reducible refine (relation_reader_pass.calls k g s0_0 s0_1 1 t192 t193 w0 _ ?side1 ?side2 A9.out).mono ?_); (case side1 => repeat (first | (with_reducible first | exact HI0.out | apply IsS135.alloc | apply IsS135.drewN | apply IsS135.drew | apply IsS135.set_0 | apply IsS135.set_1) | exact HI0.out)); (case side2 => repeat (first | (with_reducible first | exact HB.out | apply below_alloc | apply pw_below_drewN | apply below_drew1 | refine below_set ?_ (IsS135.ge HI0.out)) | exact HB.out)); rintro e w11 ⟨rfl, hi, hb, hk⟩; have n0_ := Aside0.mk (KeepBut.trans (by repeat (first | (with_reducible first | exact HK.out | apply KeepBut.set_ | apply keep_drewN | apply keep_drew | apply keep_alloc) | exact HK.out)) hk (.inl rfl)); have n1_ := Aside0.mk (hb); have n2_ := Aside0.mk (hi); clear HK; clear HB; clear HI0; have HK := n0_; have HB := n1_; have HI0 := n2_; clear n0_ n1_ n2_; (try clear hb); (try clear hb2); (try clear hk); (try clear hi))); try go_wp2_with (first | (go_at_call 121; (with_reducible refine (relation_reader_pass.calls k g s0_0 s0_1 1 t192 t193 w0 _ ?side1 ?side2 A9.out).mono ?_); (case side1 => repeat (first | (with_reducible first | exact HI0.out | apply IsS135.alloc | apply IsS135.drewN | apply IsS135.drew | apply IsS135.set_0 | apply IsS135.set_1) | exact HI0.out)); (case side2 => repeat (first | (with_reducible first | exact HB.out | apply below_alloc | apply pw_below_drewN | apply below_drew1 | refine below_set ?_ (IsS135.ge HI0.out)) | exact HB.out)); rintro e w11 ⟨rfl, hi, hb, hk⟩; have n0_ := Aside0.mk (KeepBut.trans (by repeat (first | (with_reducible first | exact HK.out | apply KeepBut.set_ | apply keep_drewN | apply keep_drew | apply keep_alloc) | exact HK.out)) hk (.inl rfl)); have n1_ := Aside0.mk (hb); have n2_ := Aside0.mk (hi); clear HK; clear HB; clear HI0; have HK := n0_; have HB := n1_; have HI0 := n2_; clear n0_ n1_ n2_; (try clear hb); (try clear hb2); (try clear hk); (try clear hi))))
     go_ret
     exact ⟨by first | rfl | (simp [errW_none, errW_some] <;> rfl) | (simp [*, errW_none, errW_some] <;> rfl) | (simp [errW_none, errW_some, Go.Proofs.YtmocooihkobdjaaDoor.listNe]; done), by repeat (first | (with_reducible first | exact HI0.out | apply IsS135.alloc | apply IsS135.drewN | apply IsS135.drew | apply IsS135.set_0 | apply IsS135.set_1) | exact HI0.out), by repeat (first | (with_reducible first | exact HB.out | apply below_alloc | apply pw_below_drewN | apply below_drew1 | refine below_set ?_ (IsS135.ge HI0.out)) | exact HB.out), by repeat (first | (with_reducible first | exact HK.out | apply KeepBut.set_ | apply keep_drewN | apply keep_drew | apply keep_alloc) | exact HK.out)⟩
    ·rw [if_neg c8] at H
     have c8b0 : ((bt s0_0 s0_1) == a1) = false := beq_eq_false_iff_ne.mpr c8
     have c8b1 : ((bt s0_0 s0_1) != a1) = true := bne_iff_ne.mpr c8
     simp only [Option.some.injEq, Prod.mk.injEq] at H
     obtain ⟨rfl, rfl, rfl⟩ := H
     obtain ⟨HGz12, hgz12⟩ := HI0.out
     have hcz12_0 := cellS135_0 HGz12
     have hcz12_1 := cellS135_1 HGz12
     have hfz12_0 := blk_frozen HGz12 0
     have hfz12_1 := blk_frozen HGz12 1
     clear HGz12 hgz12
     have p7 : 0 ≤ (s0_1 : Int) := of_decide_eq_true (by first | (with_reducible assumption) | assumption)
     have q7 : s0_1 < (s0_0.size : Int) := of_decide_eq_true (by first | (with_reducible assumption) | assumption)
     have hx7 := bt_at s0_0 s0_1
     replace p7 := eq_true p7
     replace q7 := eq_true q7
     go_enter Tryd.func109, Tryd.ntmps109
     go_wp2
     repeat (go_quiet (fail); try go_wp2)
     go_ret
     exact ⟨by first | rfl | (simp [errW_none, errW_some] <;> rfl) | (simp [*, errW_none, errW_some] <;> rfl) | (simp [errW_none, errW_some, Go.Proofs.YtmocooihkobdjaaDoor.listNe]; done), by repeat (first | (with_reducible first | exact HI0.out | apply IsS135.alloc | apply IsS135.drewN | apply IsS135.drew | apply IsS135.set_0 | apply IsS135.set_1) | exact HI0.out), by repeat (first | (with_reducible first | exact HB.out | apply below_alloc | apply pw_below_drewN | apply below_drew1 | refine below_set ?_ (IsS135.ge HI0.out)) | exact HB.out), by repeat (first | (with_reducible first | exact HK.out | apply KeepBut.set_ | apply keep_drewN | apply keep_drew | apply keep_alloc) | exact HK.out)⟩
   ·rw [if_neg c6] at H
    exact absurd H (by simp)
  ·rw [if_neg c5] at H
   exact absurd H (by simp)
end Go.Proofs.YtmocooihkobdjaaDoor.G
end
section
namespace Go.Proofs.YtmocooihkobdjaaDoor.G
open Go.RowKit Go.Proofs.YtmocooihkobdjaaDoorW.PrintWords Go.Proofs.YtmocooihkobdjaaDoorW.PrintLast Go.Proofs.YtmocooihkobdjaaDoorW.PrintMore
attribute [local go_sem] max2_int min2_int max_two min_two max_three min_three max_four min_four
set_option linter.unusedVariables false
set_option linter.unusedSimpArgs false
def relation_reader_run.l0 : Nat → Bool → Int → ByteArray → Int → Option (ByteArray × ByteArray × Int)
 | 0, _, _, _, _ => none
 | k + 1, x1, x5, x1000, x1001 => if x5 < (x1000.size : Int) then (if 0 ≤ x5 then ((relation_kind.f k (bt x1000 x5)).bind fun t194 => (if x1 = true then (if t194 = 3 then (if t194 = 1 then (if 0 ≤ x1001 then (if x1001 ≤ x5 then (if x5 ≤ (x1000.size : Int) then (some (x1000.extract (x1001 : Int).toNat (x5 : Int).toNat, x1000, x1001)) else (none)) else (none)) else (none)) else (if t194 = 2 then (if 0 ≤ x1001 then (if x1001 ≤ x5 then (if x5 ≤ (x1000.size : Int) then (some (x1000.extract (x1001 : Int).toNat (x5 : Int).toNat, x1000, x1001)) else (none)) else (none)) else (none)) else (relation_reader_run.l0 k x1 (wrap64 (x5 + 1)) x1000 x1001))) else (if 0 ≤ x1001 then (if x1001 ≤ x5 then (if x5 ≤ (x1000.size : Int) then (some (x1000.extract (x1001 : Int).toNat (x5 : Int).toNat, x1000, x1001)) else (none)) else (none)) else (none))) else (if t194 = 1 then (if 0 ≤ x1001 then (if x1001 ≤ x5 then (if x5 ≤ (x1000.size : Int) then (some (x1000.extract (x1001 : Int).toNat (x5 : Int).toNat, x1000, x1001)) else (none)) else (none)) else (none)) else (if t194 = 2 then (if 0 ≤ x1001 then (if x1001 ≤ x5 then (if x5 ≤ (x1000.size : Int) then (some (x1000.extract (x1001 : Int).toNat (x5 : Int).toNat, x1000, x1001)) else (none)) else (none)) else (none)) else (relation_reader_run.l0 k x1 (wrap64 (x5 + 1)) x1000 x1001))))) else (none)) else (if 0 ≤ x1001 then (if x1001 ≤ x5 then (if x5 ≤ (x1000.size : Int) then (some (x1000.extract (x1001 : Int).toNat (x5 : Int).toNat, x1000, x1001)) else (none)) else (none)) else (none))
def relation_reader_run.f (k : Nat) (s0_0 : ByteArray) (s0_1 : Int) (a1 : Bool) : Option (ByteArray × ByteArray × Int) := relation_reader_run.l0 k a1 s0_1 s0_0 s0_1
theorem relation_reader_run.mono_l : ∀ k, (∀ y0 y1 y2 y3, LeO (relation_reader_run.l0 k y0 y1 y2 y3) (relation_reader_run.l0 (k + 1) y0 y1 y2 y3))
 | 0 => fun _ _ _ _ r h => by simp [relation_reader_run.l0] at h
 | k + 1 => by
  have ih0 := relation_reader_run.mono_l k
  ·intro y0 y1 y2 y3
   unfold relation_reader_run.l0
   repeat' first
   | (with_reducible exact ih0 _ _ _ _)
   | (with_reducible exact relation_kind.mono _ _)
   | (with_reducible exact LeO.refl _)
   | (with_reducible exact LeO.none _)
   | (with_reducible refine LeO.ite ?_ ?_)
   | (with_reducible refine LeO.bind ?_ (fun _ => ?_))
   | exact ih0 _ _ _ _
   | exact relation_kind.mono _ _
   | exact LeO.none _
   | refine LeO.ite ?_ ?_
   | refine LeO.bind ?_ (fun _ => ?_)
theorem relation_reader_run.mono : ∀ a0 a1 a2 k, LeO (relation_reader_run.f k a0 a1 a2) (relation_reader_run.f (k + 1) a0 a1 a2) := by
 intro a0 a1 a2 k
 have ih0 := relation_reader_run.mono_l k
 unfold relation_reader_run.f
 repeat' first
   | (with_reducible exact ih0 _ _ _ _)
   | (with_reducible exact relation_kind.mono _ _)
   | (with_reducible exact LeO.refl _)
   | (with_reducible exact LeO.none _)
   | (with_reducible refine LeO.ite ?_ ?_)
   | (with_reducible refine LeO.bind ?_ (fun _ => ?_))
   | exact ih0 _ _ _ _
   | exact relation_kind.mono _ _
   | exact LeO.none _
   | refine LeO.ite ?_ ?_
   | refine LeO.bind ?_ (fun _ => ?_)
set_option maxHeartbeats 8000000 in
set_option maxRecDepth 100000 in
theorem relation_reader_run.calls (k : Nat) (g : Nat) (s0_0 : ByteArray) (s0_1 : Int) (a1 : Bool) (r1 : ByteArray) (r2 : ByteArray) (r3 : Int) (w0 w : World) (hI : IsS135 w0 w g s0_0 s0_1) (hB : Below w0.heap.size w0 w) (h : relation_reader_run.f k s0_0 s0_1 a1 = some (r1, r2, r3)) :
  Calls Tryd.prog 120 #[.pointer (some ⟨g, 0, none⟩), .bool a1] w fun e w' => e = .returned (.string r1) ∧ IsS135 w0 w' g r2 r3 ∧ Below w0.heap.size w0 w' ∧ KeepBut w w' g none := by
 have HI0 := Aside0.mk hI
 have HK := Aside0.mk (KeepBut.refl w g none)
 have HL := Aside0.mk hB.size
 clear hI
 have HW0 := Aside0.mk hB.size
 have HB := Aside0.mk hB
 clear hB
 have H : (relation_reader_run.l0 k a1 s0_1 s0_0 s0_1) = some (r1, r2, r3) := h
 clear h
 have H' := Aside0.mk H
 clear H
 obtain ⟨HGz3, hgz3⟩ := HI0.out
 have hcz3_0 := cellS135_0 HGz3
 have hcz3_1 := cellS135_1 HGz3
 have hfz3_0 := blk_frozen HGz3 0
 have hfz3_1 := blk_frozen HGz3 1
 clear HGz3 hgz3
 go_enter Tryd.func120, Tryd.ntmps120
 go_wp2
 repeat (go_quiet (fail); try go_wp2)
 go_loopg [5] k (fun kq v5 w' => ∃ (x5_1 : Int), v5 = .int .i64 x5_1 ∧ Aside0 (relation_reader_run.l0 kq a1 x5_1 s0_0 s0_1 = some (r1, r2, r3)) ∧ Aside0 (kq ≤ k) ∧ Aside0 (IsS135 w0 w' g s0_0 s0_1) ∧ Aside0 (KeepBut w w' g none) ∧ Aside0 (Below w0.heap.size w0 w'))
 case atStart => exact ⟨(s0_1), (by first | rfl | (simp; done) | (simp [*]; done)), H', ⟨Nat.le_refl _⟩, ⟨by repeat (first | (with_reducible first | exact HI0.out | apply IsS135.alloc | apply IsS135.drewN | apply IsS135.drew | apply IsS135.set_0 | apply IsS135.set_1) | exact HI0.out)⟩, ⟨by repeat (first | (with_reducible first | exact HK.out | apply KeepBut.set_ | apply keep_drewN | apply keep_drew | apply keep_alloc) | exact HK.out)⟩, ⟨by repeat (first | (with_reducible first | exact HB.out | apply below_alloc | apply pw_below_drewN | apply below_drew1 | refine below_set ?_ (IsS135.ge HI0.out)) | exact HB.out)⟩⟩
 case round =>
  clear H'
  try clear c1
  try clear p2
  try clear hcz3_0
  try clear hcz3_1
  try clear hfz3_0
  try clear hfz3_1
  obtain ⟨x5_1, rfl, HA, HK1, HI0, HK, HB⟩ := hrel
  cases gk with
  | zero => exact absurd HA.out (by simp [relation_reader_run.l0])
  | succ k1 =>
   have H := HA.out
   clear HA
   simp only [relation_reader_run.l0] at H
   by_cases c4 : x5_1 < (s0_0.size : Int)
   ·rw [if_pos c4] at H
    have c4b0 : decide (x5_1 < (s0_0.size : Int)) = true := decide_eq_true c4
    clear c4
    by_cases c5 : 0 ≤ x5_1
    ·rw [if_pos c5] at H
     have c5b0 : decide (0 ≤ x5_1) = true := decide_eq_true c5
     clear c5
     replace H := Option.bind_eq_some_iff.mp H
     obtain ⟨t194, A70, H⟩ := H
     replace H : (if a1 = true then (if t194 = 3 then (if t194 = 1 then (if 0 ≤ s0_1 then (if s0_1 ≤ x5_1 then (if x5_1 ≤ (s0_0.size : Int) then (some (s0_0.extract (s0_1 : Int).toNat (x5_1 : Int).toNat, s0_0, s0_1)) else (none)) else (none)) else (none)) else (if t194 = 2 then (if 0 ≤ s0_1 then (if s0_1 ≤ x5_1 then (if x5_1 ≤ (s0_0.size : Int) then (some (s0_0.extract (s0_1 : Int).toNat (x5_1 : Int).toNat, s0_0, s0_1)) else (none)) else (none)) else (none)) else (relation_reader_run.l0 k1 a1 (wrap64 (x5_1 + 1)) s0_0 s0_1))) else (if 0 ≤ s0_1 then (if s0_1 ≤ x5_1 then (if x5_1 ≤ (s0_0.size : Int) then (some (s0_0.extract (s0_1 : Int).toNat (x5_1 : Int).toNat, s0_0, s0_1)) else (none)) else (none)) else (none))) else (if t194 = 1 then (if 0 ≤ s0_1 then (if s0_1 ≤ x5_1 then (if x5_1 ≤ (s0_0.size : Int) then (some (s0_0.extract (s0_1 : Int).toNat (x5_1 : Int).toNat, s0_0, s0_1)) else (none)) else (none)) else (none)) else (if t194 = 2 then (if 0 ≤ s0_1 then (if s0_1 ≤ x5_1 then (if x5_1 ≤ (s0_0.size : Int) then (some (s0_0.extract (s0_1 : Int).toNat (x5_1 : Int).toNat, s0_0, s0_1)) else (none)) else (none)) else (none)) else (relation_reader_run.l0 k1 a1 (wrap64 (x5_1 + 1)) s0_0 s0_1)))) = some (r1, r2, r3) := H
     have A7 := Aside0.mk A70
     clear A70
     by_cases c8 : a1 = true
     ·subst c8
      have H1 : (if t194 = 3 then (if t194 = 1 then (if 0 ≤ s0_1 then (if s0_1 ≤ x5_1 then (if x5_1 ≤ (s0_0.size : Int) then (some (s0_0.extract (s0_1 : Int).toNat (x5_1 : Int).toNat, s0_0, s0_1)) else (none)) else (none)) else (none)) else (if t194 = 2 then (if 0 ≤ s0_1 then (if s0_1 ≤ x5_1 then (if x5_1 ≤ (s0_0.size : Int) then (some (s0_0.extract (s0_1 : Int).toNat (x5_1 : Int).toNat, s0_0, s0_1)) else (none)) else (none)) else (none)) else (relation_reader_run.l0 k1 true (wrap64 (x5_1 + 1)) s0_0 s0_1))) else (if 0 ≤ s0_1 then (if s0_1 ≤ x5_1 then (if x5_1 ≤ (s0_0.size : Int) then (some (s0_0.extract (s0_1 : Int).toNat (x5_1 : Int).toNat, s0_0, s0_1)) else (none)) else (none)) else (none))) = some (r1, r2, r3) := by rw [if_pos rfl] at H; exact H
      clear H
      have H := H1
      clear H1
      by_cases c9 : t194 = 3
      ·rw [if_pos c9] at H
       have c9b0 : (t194 == 3) = true := beq_iff_eq.mpr c9
       have c9b1 : (t194 != 3) = false := bne_eq_false_iff_eq.mpr c9
       clear c9
       by_cases c10 : t194 = 1
       ·rw [if_pos c10] at H
        have c10b0 : (t194 == 1) = true := beq_iff_eq.mpr c10
        have c10b1 : (t194 != 1) = false := bne_eq_false_iff_eq.mpr c10
        clear c10
        by_cases c11 : 0 ≤ s0_1
        ·rw [if_pos c11] at H
         have c11b0 := eq_true c11
         have c11b1 : decide (0 ≤ s0_1) = true := decide_eq_true c11
         clear c11
         by_cases c12 : s0_1 ≤ x5_1
         ·rw [if_pos c12] at H
          have c12b0 := eq_true c12
          have c12b1 : decide (s0_1 ≤ x5_1) = true := decide_eq_true c12
          clear c12
          by_cases c13 : x5_1 ≤ (s0_0.size : Int)
          ·rw [if_pos c13] at H
           have c13b0 := eq_true c13
           have c13b1 : decide (x5_1 ≤ (s0_0.size : Int)) = true := decide_eq_true c13
           clear c13
           simp only [Option.some.injEq, Prod.mk.injEq] at H
           obtain ⟨rfl, rfl, rfl⟩ := H
           obtain ⟨HGz14, hgz14⟩ := HI0.out
           have hcz14_0 := cellS135_0 HGz14
           have hcz14_1 := cellS135_1 HGz14
           have hfz14_0 := blk_frozen HGz14 0
           have hfz14_1 := blk_frozen HGz14 1
           clear HGz14 hgz14
           have p6 : 0 ≤ (x5_1 : Int) := of_decide_eq_true (by first | (with_reducible assumption) | assumption)
           have q6 : x5_1 < (s0_0.size : Int) := of_decide_eq_true (by first | (with_reducible assumption) | assumption)
           have hx6 := bt_at s0_0 x5_1
           replace p6 := eq_true p6
           replace q6 := eq_true q6
           go_wp2_with (first | (go_at_call 119; (with_reducible refine (relation_kind.calls k1 (bt s0_0 x5_1) t194 _ A7.out).mono ?_); rintro e w' ⟨rfl, ⟨nd, rfl⟩⟩; (try first | exact ⟨rfl, _, World.drewN_drewN _ _ _⟩ | exact ⟨rfl, _, Eq.trans (World.drewN_drewN _ _ _) (congrArg (World.drewN _) (Nat.add_assoc _ _ _))⟩)))
           repeat (go_quiet (first | (go_at_call 119; (with_reducible refine (relation_kind.calls k1 (bt s0_0 x5_1) t194 _ A7.out).mono ?_); rintro e w' ⟨rfl, ⟨nd, rfl⟩⟩; (try first | exact ⟨rfl, _, World.drewN_drewN _ _ _⟩ | exact ⟨rfl, _, Eq.trans (World.drewN_drewN _ _ _) (congrArg (World.drewN _) (Nat.add_assoc _ _ _))⟩))); try go_wp2_with (first | (go_at_call 119; (with_reducible refine (relation_kind.calls k1 (bt s0_0 x5_1) t194 _ A7.out).mono ?_); rintro e w' ⟨rfl, ⟨nd, rfl⟩⟩; (try first | exact ⟨rfl, _, World.drewN_drewN _ _ _⟩ | exact ⟨rfl, _, Eq.trans (World.drewN_drewN _ _ _) (congrArg (World.drewN _) (Nat.add_assoc _ _ _))⟩))))
           go_ret
           exact ⟨by first | rfl | (simp [errW_none, errW_some] <;> rfl) | (simp [*, errW_none, errW_some] <;> rfl) | (simp [errW_none, errW_some, Go.Proofs.YtmocooihkobdjaaDoor.listNe]; done), by repeat (first | (with_reducible first | exact HI0.out | apply IsS135.alloc | apply IsS135.drewN | apply IsS135.drew | apply IsS135.set_0 | apply IsS135.set_1) | exact HI0.out), by repeat (first | (with_reducible first | exact HB.out | apply below_alloc | apply pw_below_drewN | apply below_drew1 | refine below_set ?_ (IsS135.ge HI0.out)) | exact HB.out), by repeat (first | (with_reducible first | exact HK.out | apply KeepBut.set_ | apply keep_drewN | apply keep_drew | apply keep_alloc) | exact HK.out)⟩
          ·rw [if_neg c13] at H
           exact absurd H (by simp)
         ·rw [if_neg c12] at H
          exact absurd H (by simp)
        ·rw [if_neg c11] at H
         exact absurd H (by simp)
       ·rw [if_neg c10] at H
        have c10b0 : (t194 == 1) = false := beq_eq_false_iff_ne.mpr c10
        have c10b1 : (t194 != 1) = true := bne_iff_ne.mpr c10
        by_cases c15 : t194 = 2
        ·rw [if_pos c15] at H
         have c15b0 : (t194 == 2) = true := beq_iff_eq.mpr c15
         have c15b1 : (t194 != 2) = false := bne_eq_false_iff_eq.mpr c15
         clear c15
         by_cases c16 : 0 ≤ s0_1
         ·rw [if_pos c16] at H
          have c16b0 := eq_true c16
          have c16b1 : decide (0 ≤ s0_1) = true := decide_eq_true c16
          clear c16
          by_cases c17 : s0_1 ≤ x5_1
          ·rw [if_pos c17] at H
           have c17b0 := eq_true c17
           have c17b1 : decide (s0_1 ≤ x5_1) = true := decide_eq_true c17
           clear c17
           by_cases c18 : x5_1 ≤ (s0_0.size : Int)
           ·rw [if_pos c18] at H
            have c18b0 := eq_true c18
            have c18b1 : decide (x5_1 ≤ (s0_0.size : Int)) = true := decide_eq_true c18
            clear c18
            simp only [Option.some.injEq, Prod.mk.injEq] at H
            obtain ⟨rfl, rfl, rfl⟩ := H
            obtain ⟨HGz19, hgz19⟩ := HI0.out
            have hcz19_0 := cellS135_0 HGz19
            have hcz19_1 := cellS135_1 HGz19
            have hfz19_0 := blk_frozen HGz19 0
            have hfz19_1 := blk_frozen HGz19 1
            clear HGz19 hgz19
            have p6 : 0 ≤ (x5_1 : Int) := of_decide_eq_true (by first | (with_reducible assumption) | assumption)
            have q6 : x5_1 < (s0_0.size : Int) := of_decide_eq_true (by first | (with_reducible assumption) | assumption)
            have hx6 := bt_at s0_0 x5_1
            replace p6 := eq_true p6
            replace q6 := eq_true q6
            go_wp2_with (first | (go_at_call 119; (with_reducible refine (relation_kind.calls k1 (bt s0_0 x5_1) t194 _ A7.out).mono ?_); rintro e w' ⟨rfl, ⟨nd, rfl⟩⟩; (try first | exact ⟨rfl, _, World.drewN_drewN _ _ _⟩ | exact ⟨rfl, _, Eq.trans (World.drewN_drewN _ _ _) (congrArg (World.drewN _) (Nat.add_assoc _ _ _))⟩)))
            repeat (go_quiet (first | (go_at_call 119; (with_reducible refine (relation_kind.calls k1 (bt s0_0 x5_1) t194 _ A7.out).mono ?_); rintro e w' ⟨rfl, ⟨nd, rfl⟩⟩; (try first | exact ⟨rfl, _, World.drewN_drewN _ _ _⟩ | exact ⟨rfl, _, Eq.trans (World.drewN_drewN _ _ _) (congrArg (World.drewN _) (Nat.add_assoc _ _ _))⟩))); try go_wp2_with (first | (go_at_call 119; (with_reducible refine (relation_kind.calls k1 (bt s0_0 x5_1) t194 _ A7.out).mono ?_); rintro e w' ⟨rfl, ⟨nd, rfl⟩⟩; (try first | exact ⟨rfl, _, World.drewN_drewN _ _ _⟩ | exact ⟨rfl, _, Eq.trans (World.drewN_drewN _ _ _) (congrArg (World.drewN _) (Nat.add_assoc _ _ _))⟩))))
            go_ret
            exact ⟨by first | rfl | (simp [errW_none, errW_some] <;> rfl) | (simp [*, errW_none, errW_some] <;> rfl) | (simp [errW_none, errW_some, Go.Proofs.YtmocooihkobdjaaDoor.listNe]; done), by repeat (first | (with_reducible first | exact HI0.out | apply IsS135.alloc | apply IsS135.drewN | apply IsS135.drew | apply IsS135.set_0 | apply IsS135.set_1) | exact HI0.out), by repeat (first | (with_reducible first | exact HB.out | apply below_alloc | apply pw_below_drewN | apply below_drew1 | refine below_set ?_ (IsS135.ge HI0.out)) | exact HB.out), by repeat (first | (with_reducible first | exact HK.out | apply KeepBut.set_ | apply keep_drewN | apply keep_drew | apply keep_alloc) | exact HK.out)⟩
           ·rw [if_neg c18] at H
            exact absurd H (by simp)
          ·rw [if_neg c17] at H
           exact absurd H (by simp)
         ·rw [if_neg c16] at H
          exact absurd H (by simp)
        ·rw [if_neg c15] at H
         have c15b0 : (t194 == 2) = false := beq_eq_false_iff_ne.mpr c15
         have c15b1 : (t194 != 2) = true := bne_iff_ne.mpr c15
         have H' := Aside0.mk H
         clear H
         obtain ⟨HGz20, hgz20⟩ := HI0.out
         have hcz20_0 := cellS135_0 HGz20
         have hcz20_1 := cellS135_1 HGz20
         have hfz20_0 := blk_frozen HGz20 0
         have hfz20_1 := blk_frozen HGz20 1
         clear HGz20 hgz20
         have p6 : 0 ≤ (x5_1 : Int) := of_decide_eq_true (by first | (with_reducible assumption) | assumption)
         have q6 : x5_1 < (s0_0.size : Int) := of_decide_eq_true (by first | (with_reducible assumption) | assumption)
         have hx6 := bt_at s0_0 x5_1
         replace p6 := eq_true p6
         replace q6 := eq_true q6
         go_wp2_with (first | (go_at_call 119; (with_reducible refine (relation_kind.calls k1 (bt s0_0 x5_1) t194 _ A7.out).mono ?_); rintro e w' ⟨rfl, ⟨nd, rfl⟩⟩; (try first | exact ⟨rfl, _, World.drewN_drewN _ _ _⟩ | exact ⟨rfl, _, Eq.trans (World.drewN_drewN _ _ _) (congrArg (World.drewN _) (Nat.add_assoc _ _ _))⟩)))
         repeat (go_quiet (first | (go_at_call 119; (with_reducible refine (relation_kind.calls k1 (bt s0_0 x5_1) t194 _ A7.out).mono ?_); rintro e w' ⟨rfl, ⟨nd, rfl⟩⟩; (try first | exact ⟨rfl, _, World.drewN_drewN _ _ _⟩ | exact ⟨rfl, _, Eq.trans (World.drewN_drewN _ _ _) (congrArg (World.drewN _) (Nat.add_assoc _ _ _))⟩))); try go_wp2_with (first | (go_at_call 119; (with_reducible refine (relation_kind.calls k1 (bt s0_0 x5_1) t194 _ A7.out).mono ?_); rintro e w' ⟨rfl, ⟨nd, rfl⟩⟩; (try first | exact ⟨rfl, _, World.drewN_drewN _ _ _⟩ | exact ⟨rfl, _, Eq.trans (World.drewN_drewN _ _ _) (congrArg (World.drewN _) (Nat.add_assoc _ _ _))⟩))))
         go_roundg k1
         case measure => have := HK1.out; omega
         case rel => exact ⟨(wrap64 (x5_1 + 1)), (by first | rfl | (simp; done) | (simp [*]; done)), H', ⟨by have := HK1.out; omega⟩, ⟨by repeat (first | (with_reducible first | exact HI0.out | apply IsS135.alloc | apply IsS135.drewN | apply IsS135.drew | apply IsS135.set_0 | apply IsS135.set_1) | exact HI0.out)⟩, ⟨by repeat (first | (with_reducible first | exact HK.out | apply KeepBut.set_ | apply keep_drewN | apply keep_drew | apply keep_alloc) | exact HK.out)⟩, ⟨by repeat (first | (with_reducible first | exact HB.out | apply below_alloc | apply pw_below_drewN | apply below_drew1 | refine below_set ?_ (IsS135.ge HI0.out)) | exact HB.out)⟩⟩
      ·rw [if_neg c9] at H
       have c9b0 : (t194 == 3) = false := beq_eq_false_iff_ne.mpr c9
       have c9b1 : (t194 != 3) = true := bne_iff_ne.mpr c9
       by_cases c21 : 0 ≤ s0_1
       ·rw [if_pos c21] at H
        have c21b0 := eq_true c21
        have c21b1 : decide (0 ≤ s0_1) = true := decide_eq_true c21
        clear c21
        by_cases c22 : s0_1 ≤ x5_1
        ·rw [if_pos c22] at H
         have c22b0 := eq_true c22
         have c22b1 : decide (s0_1 ≤ x5_1) = true := decide_eq_true c22
         clear c22
         by_cases c23 : x5_1 ≤ (s0_0.size : Int)
         ·rw [if_pos c23] at H
          have c23b0 := eq_true c23
          have c23b1 : decide (x5_1 ≤ (s0_0.size : Int)) = true := decide_eq_true c23
          clear c23
          simp only [Option.some.injEq, Prod.mk.injEq] at H
          obtain ⟨rfl, rfl, rfl⟩ := H
          obtain ⟨HGz24, hgz24⟩ := HI0.out
          have hcz24_0 := cellS135_0 HGz24
          have hcz24_1 := cellS135_1 HGz24
          have hfz24_0 := blk_frozen HGz24 0
          have hfz24_1 := blk_frozen HGz24 1
          clear HGz24 hgz24
          have p6 : 0 ≤ (x5_1 : Int) := of_decide_eq_true (by first | (with_reducible assumption) | assumption)
          have q6 : x5_1 < (s0_0.size : Int) := of_decide_eq_true (by first | (with_reducible assumption) | assumption)
          have hx6 := bt_at s0_0 x5_1
          replace p6 := eq_true p6
          replace q6 := eq_true q6
          go_wp2_with (first | (go_at_call 119; (with_reducible refine (relation_kind.calls k1 (bt s0_0 x5_1) t194 _ A7.out).mono ?_); rintro e w' ⟨rfl, ⟨nd, rfl⟩⟩; (try first | exact ⟨rfl, _, World.drewN_drewN _ _ _⟩ | exact ⟨rfl, _, Eq.trans (World.drewN_drewN _ _ _) (congrArg (World.drewN _) (Nat.add_assoc _ _ _))⟩)))
          repeat (go_quiet (first | (go_at_call 119; (with_reducible refine (relation_kind.calls k1 (bt s0_0 x5_1) t194 _ A7.out).mono ?_); rintro e w' ⟨rfl, ⟨nd, rfl⟩⟩; (try first | exact ⟨rfl, _, World.drewN_drewN _ _ _⟩ | exact ⟨rfl, _, Eq.trans (World.drewN_drewN _ _ _) (congrArg (World.drewN _) (Nat.add_assoc _ _ _))⟩))); try go_wp2_with (first | (go_at_call 119; (with_reducible refine (relation_kind.calls k1 (bt s0_0 x5_1) t194 _ A7.out).mono ?_); rintro e w' ⟨rfl, ⟨nd, rfl⟩⟩; (try first | exact ⟨rfl, _, World.drewN_drewN _ _ _⟩ | exact ⟨rfl, _, Eq.trans (World.drewN_drewN _ _ _) (congrArg (World.drewN _) (Nat.add_assoc _ _ _))⟩))))
          go_ret
          exact ⟨by first | rfl | (simp [errW_none, errW_some] <;> rfl) | (simp [*, errW_none, errW_some] <;> rfl) | (simp [errW_none, errW_some, Go.Proofs.YtmocooihkobdjaaDoor.listNe]; done), by repeat (first | (with_reducible first | exact HI0.out | apply IsS135.alloc | apply IsS135.drewN | apply IsS135.drew | apply IsS135.set_0 | apply IsS135.set_1) | exact HI0.out), by repeat (first | (with_reducible first | exact HB.out | apply below_alloc | apply pw_below_drewN | apply below_drew1 | refine below_set ?_ (IsS135.ge HI0.out)) | exact HB.out), by repeat (first | (with_reducible first | exact HK.out | apply KeepBut.set_ | apply keep_drewN | apply keep_drew | apply keep_alloc) | exact HK.out)⟩
         ·rw [if_neg c23] at H
          exact absurd H (by simp)
        ·rw [if_neg c22] at H
         exact absurd H (by simp)
       ·rw [if_neg c21] at H
        exact absurd H (by simp)
     ·replace c8 := Bool.eq_false_iff.mpr c8
      subst c8
      have H1 : (if t194 = 1 then (if 0 ≤ s0_1 then (if s0_1 ≤ x5_1 then (if x5_1 ≤ (s0_0.size : Int) then (some (s0_0.extract (s0_1 : Int).toNat (x5_1 : Int).toNat, s0_0, s0_1)) else (none)) else (none)) else (none)) else (if t194 = 2 then (if 0 ≤ s0_1 then (if s0_1 ≤ x5_1 then (if x5_1 ≤ (s0_0.size : Int) then (some (s0_0.extract (s0_1 : Int).toNat (x5_1 : Int).toNat, s0_0, s0_1)) else (none)) else (none)) else (none)) else (relation_reader_run.l0 k1 false (wrap64 (x5_1 + 1)) s0_0 s0_1))) = some (r1, r2, r3) := by rw [if_neg (show ¬ (false = true) by decide)] at H; exact H
      clear H
      have H := H1
      clear H1
      by_cases c25 : t194 = 1
      ·rw [if_pos c25] at H
       have c25b0 : (t194 == 1) = true := beq_iff_eq.mpr c25
       have c25b1 : (t194 != 1) = false := bne_eq_false_iff_eq.mpr c25
       clear c25
       by_cases c26 : 0 ≤ s0_1
       ·rw [if_pos c26] at H
        have c26b0 := eq_true c26
        have c26b1 : decide (0 ≤ s0_1) = true := decide_eq_true c26
        clear c26
        by_cases c27 : s0_1 ≤ x5_1
        ·rw [if_pos c27] at H
         have c27b0 := eq_true c27
         have c27b1 : decide (s0_1 ≤ x5_1) = true := decide_eq_true c27
         clear c27
         by_cases c28 : x5_1 ≤ (s0_0.size : Int)
         ·rw [if_pos c28] at H
          have c28b0 := eq_true c28
          have c28b1 : decide (x5_1 ≤ (s0_0.size : Int)) = true := decide_eq_true c28
          clear c28
          simp only [Option.some.injEq, Prod.mk.injEq] at H
          obtain ⟨rfl, rfl, rfl⟩ := H
          obtain ⟨HGz29, hgz29⟩ := HI0.out
          have hcz29_0 := cellS135_0 HGz29
          have hcz29_1 := cellS135_1 HGz29
          have hfz29_0 := blk_frozen HGz29 0
          have hfz29_1 := blk_frozen HGz29 1
          clear HGz29 hgz29
          have p6 : 0 ≤ (x5_1 : Int) := of_decide_eq_true (by first | (with_reducible assumption) | assumption)
          have q6 : x5_1 < (s0_0.size : Int) := of_decide_eq_true (by first | (with_reducible assumption) | assumption)
          have hx6 := bt_at s0_0 x5_1
          replace p6 := eq_true p6
          replace q6 := eq_true q6
          go_wp2_with (first | (go_at_call 119; (with_reducible refine (relation_kind.calls k1 (bt s0_0 x5_1) t194 _ A7.out).mono ?_); rintro e w' ⟨rfl, ⟨nd, rfl⟩⟩; (try first | exact ⟨rfl, _, World.drewN_drewN _ _ _⟩ | exact ⟨rfl, _, Eq.trans (World.drewN_drewN _ _ _) (congrArg (World.drewN _) (Nat.add_assoc _ _ _))⟩)))
          repeat (go_quiet (first | (go_at_call 119; (with_reducible refine (relation_kind.calls k1 (bt s0_0 x5_1) t194 _ A7.out).mono ?_); rintro e w' ⟨rfl, ⟨nd, rfl⟩⟩; (try first | exact ⟨rfl, _, World.drewN_drewN _ _ _⟩ | exact ⟨rfl, _, Eq.trans (World.drewN_drewN _ _ _) (congrArg (World.drewN _) (Nat.add_assoc _ _ _))⟩))); try go_wp2_with (first | (go_at_call 119; (with_reducible refine (relation_kind.calls k1 (bt s0_0 x5_1) t194 _ A7.out).mono ?_); rintro e w' ⟨rfl, ⟨nd, rfl⟩⟩; (try first | exact ⟨rfl, _, World.drewN_drewN _ _ _⟩ | exact ⟨rfl, _, Eq.trans (World.drewN_drewN _ _ _) (congrArg (World.drewN _) (Nat.add_assoc _ _ _))⟩))))
          go_ret
          exact ⟨by first | rfl | (simp [errW_none, errW_some] <;> rfl) | (simp [*, errW_none, errW_some] <;> rfl) | (simp [errW_none, errW_some, Go.Proofs.YtmocooihkobdjaaDoor.listNe]; done), by repeat (first | (with_reducible first | exact HI0.out | apply IsS135.alloc | apply IsS135.drewN | apply IsS135.drew | apply IsS135.set_0 | apply IsS135.set_1) | exact HI0.out), by repeat (first | (with_reducible first | exact HB.out | apply below_alloc | apply pw_below_drewN | apply below_drew1 | refine below_set ?_ (IsS135.ge HI0.out)) | exact HB.out), by repeat (first | (with_reducible first | exact HK.out | apply KeepBut.set_ | apply keep_drewN | apply keep_drew | apply keep_alloc) | exact HK.out)⟩
         ·rw [if_neg c28] at H
          exact absurd H (by simp)
        ·rw [if_neg c27] at H
         exact absurd H (by simp)
       ·rw [if_neg c26] at H
        exact absurd H (by simp)
      ·rw [if_neg c25] at H
       have c25b0 : (t194 == 1) = false := beq_eq_false_iff_ne.mpr c25
       have c25b1 : (t194 != 1) = true := bne_iff_ne.mpr c25
       by_cases c30 : t194 = 2
       ·rw [if_pos c30] at H
        have c30b0 : (t194 == 2) = true := beq_iff_eq.mpr c30
        have c30b1 : (t194 != 2) = false := bne_eq_false_iff_eq.mpr c30
        clear c30
        by_cases c31 : 0 ≤ s0_1
        ·rw [if_pos c31] at H
         have c31b0 := eq_true c31
         have c31b1 : decide (0 ≤ s0_1) = true := decide_eq_true c31
         clear c31
         by_cases c32 : s0_1 ≤ x5_1
         ·rw [if_pos c32] at H
          have c32b0 := eq_true c32
          have c32b1 : decide (s0_1 ≤ x5_1) = true := decide_eq_true c32
          clear c32
          by_cases c33 : x5_1 ≤ (s0_0.size : Int)
          ·rw [if_pos c33] at H
           have c33b0 := eq_true c33
           have c33b1 : decide (x5_1 ≤ (s0_0.size : Int)) = true := decide_eq_true c33
           clear c33
           simp only [Option.some.injEq, Prod.mk.injEq] at H
           obtain ⟨rfl, rfl, rfl⟩ := H
           obtain ⟨HGz34, hgz34⟩ := HI0.out
           have hcz34_0 := cellS135_0 HGz34
           have hcz34_1 := cellS135_1 HGz34
           have hfz34_0 := blk_frozen HGz34 0
           have hfz34_1 := blk_frozen HGz34 1
           clear HGz34 hgz34
           have p6 : 0 ≤ (x5_1 : Int) := of_decide_eq_true (by first | (with_reducible assumption) | assumption)
           have q6 : x5_1 < (s0_0.size : Int) := of_decide_eq_true (by first | (with_reducible assumption) | assumption)
           have hx6 := bt_at s0_0 x5_1
           replace p6 := eq_true p6
           replace q6 := eq_true q6
           go_wp2_with (first | (go_at_call 119; (with_reducible refine (relation_kind.calls k1 (bt s0_0 x5_1) t194 _ A7.out).mono ?_); rintro e w' ⟨rfl, ⟨nd, rfl⟩⟩; (try first | exact ⟨rfl, _, World.drewN_drewN _ _ _⟩ | exact ⟨rfl, _, Eq.trans (World.drewN_drewN _ _ _) (congrArg (World.drewN _) (Nat.add_assoc _ _ _))⟩)))
           repeat (go_quiet (first | (go_at_call 119; (with_reducible refine (relation_kind.calls k1 (bt s0_0 x5_1) t194 _ A7.out).mono ?_); rintro e w' ⟨rfl, ⟨nd, rfl⟩⟩; (try first | exact ⟨rfl, _, World.drewN_drewN _ _ _⟩ | exact ⟨rfl, _, Eq.trans (World.drewN_drewN _ _ _) (congrArg (World.drewN _) (Nat.add_assoc _ _ _))⟩))); try go_wp2_with (first | (go_at_call 119; (with_reducible refine (relation_kind.calls k1 (bt s0_0 x5_1) t194 _ A7.out).mono ?_); rintro e w' ⟨rfl, ⟨nd, rfl⟩⟩; (try first | exact ⟨rfl, _, World.drewN_drewN _ _ _⟩ | exact ⟨rfl, _, Eq.trans (World.drewN_drewN _ _ _) (congrArg (World.drewN _) (Nat.add_assoc _ _ _))⟩))))
           go_ret
           exact ⟨by first | rfl | (simp [errW_none, errW_some] <;> rfl) | (simp [*, errW_none, errW_some] <;> rfl) | (simp [errW_none, errW_some, Go.Proofs.YtmocooihkobdjaaDoor.listNe]; done), by repeat (first | (with_reducible first | exact HI0.out | apply IsS135.alloc | apply IsS135.drewN | apply IsS135.drew | apply IsS135.set_0 | apply IsS135.set_1) | exact HI0.out), by repeat (first | (with_reducible first | exact HB.out | apply below_alloc | apply pw_below_drewN | apply below_drew1 | refine below_set ?_ (IsS135.ge HI0.out)) | exact HB.out), by repeat (first | (with_reducible first | exact HK.out | apply KeepBut.set_ | apply keep_drewN | apply keep_drew | apply keep_alloc) | exact HK.out)⟩
          ·rw [if_neg c33] at H
           exact absurd H (by simp)
         ·rw [if_neg c32] at H
          exact absurd H (by simp)
        ·rw [if_neg c31] at H
         exact absurd H (by simp)
       ·rw [if_neg c30] at H
        have c30b0 : (t194 == 2) = false := beq_eq_false_iff_ne.mpr c30
        have c30b1 : (t194 != 2) = true := bne_iff_ne.mpr c30
        have H' := Aside0.mk H
        clear H
        obtain ⟨HGz35, hgz35⟩ := HI0.out
        have hcz35_0 := cellS135_0 HGz35
        have hcz35_1 := cellS135_1 HGz35
        have hfz35_0 := blk_frozen HGz35 0
        have hfz35_1 := blk_frozen HGz35 1
        clear HGz35 hgz35
        have p6 : 0 ≤ (x5_1 : Int) := of_decide_eq_true (by first | (with_reducible assumption) | assumption)
        have q6 : x5_1 < (s0_0.size : Int) := of_decide_eq_true (by first | (with_reducible assumption) | assumption)
        have hx6 := bt_at s0_0 x5_1
        replace p6 := eq_true p6
        replace q6 := eq_true q6
        go_wp2_with (first | (go_at_call 119; (with_reducible refine (relation_kind.calls k1 (bt s0_0 x5_1) t194 _ A7.out).mono ?_); rintro e w' ⟨rfl, ⟨nd, rfl⟩⟩; (try first | exact ⟨rfl, _, World.drewN_drewN _ _ _⟩ | exact ⟨rfl, _, Eq.trans (World.drewN_drewN _ _ _) (congrArg (World.drewN _) (Nat.add_assoc _ _ _))⟩)))
        repeat (go_quiet (first | (go_at_call 119; (with_reducible refine (relation_kind.calls k1 (bt s0_0 x5_1) t194 _ A7.out).mono ?_); rintro e w' ⟨rfl, ⟨nd, rfl⟩⟩; (try first | exact ⟨rfl, _, World.drewN_drewN _ _ _⟩ | exact ⟨rfl, _, Eq.trans (World.drewN_drewN _ _ _) (congrArg (World.drewN _) (Nat.add_assoc _ _ _))⟩))); try go_wp2_with (first | (go_at_call 119; (with_reducible refine (relation_kind.calls k1 (bt s0_0 x5_1) t194 _ A7.out).mono ?_); rintro e w' ⟨rfl, ⟨nd, rfl⟩⟩; (try first | exact ⟨rfl, _, World.drewN_drewN _ _ _⟩ | exact ⟨rfl, _, Eq.trans (World.drewN_drewN _ _ _) (congrArg (World.drewN _) (Nat.add_assoc _ _ _))⟩))))
        go_roundg k1
        case measure => have := HK1.out; omega
        case rel => exact ⟨(wrap64 (x5_1 + 1)), (by first | rfl | (simp; done) | (simp [*]; done)), H', ⟨by have := HK1.out; omega⟩, ⟨by repeat (first | (with_reducible first | exact HI0.out | apply IsS135.alloc | apply IsS135.drewN | apply IsS135.drew | apply IsS135.set_0 | apply IsS135.set_1) | exact HI0.out)⟩, ⟨by repeat (first | (with_reducible first | exact HK.out | apply KeepBut.set_ | apply keep_drewN | apply keep_drew | apply keep_alloc) | exact HK.out)⟩, ⟨by repeat (first | (with_reducible first | exact HB.out | apply below_alloc | apply pw_below_drewN | apply below_drew1 | refine below_set ?_ (IsS135.ge HI0.out)) | exact HB.out)⟩⟩
    ·rw [if_neg c5] at H
     exact absurd H (by simp)
   ·rw [if_neg c4] at H
    have c4b0 : decide (x5_1 < (s0_0.size : Int)) = false := decide_eq_false c4
    clear c4
    by_cases c36 : 0 ≤ s0_1
    ·rw [if_pos c36] at H
     have c36b0 := eq_true c36
     have c36b1 : decide (0 ≤ s0_1) = true := decide_eq_true c36
     clear c36
     by_cases c37 : s0_1 ≤ x5_1
     ·rw [if_pos c37] at H
      have c37b0 := eq_true c37
      have c37b1 : decide (s0_1 ≤ x5_1) = true := decide_eq_true c37
      clear c37
      by_cases c38 : x5_1 ≤ (s0_0.size : Int)
      ·rw [if_pos c38] at H
       have c38b0 := eq_true c38
       have c38b1 : decide (x5_1 ≤ (s0_0.size : Int)) = true := decide_eq_true c38
       clear c38
       simp only [Option.some.injEq, Prod.mk.injEq] at H
       obtain ⟨rfl, rfl, rfl⟩ := H
       obtain ⟨HGz39, hgz39⟩ := HI0.out
       have hcz39_0 := cellS135_0 HGz39
       have hcz39_1 := cellS135_1 HGz39
       have hfz39_0 := blk_frozen HGz39 0
       have hfz39_1 := blk_frozen HGz39 1
       clear HGz39 hgz39
       go_wp2
       repeat (go_quiet (fail); try go_wp2)
       go_ret
       exact ⟨by first | rfl | (simp [errW_none, errW_some] <;> rfl) | (simp [*, errW_none, errW_some] <;> rfl) | (simp [errW_none, errW_some, Go.Proofs.YtmocooihkobdjaaDoor.listNe]; done), by repeat (first | (with_reducible first | exact HI0.out | apply IsS135.alloc | apply IsS135.drewN | apply IsS135.drew | apply IsS135.set_0 | apply IsS135.set_1) | exact HI0.out), by repeat (first | (with_reducible first | exact HB.out | apply below_alloc | apply pw_below_drewN | apply below_drew1 | refine below_set ?_ (IsS135.ge HI0.out)) | exact HB.out), by repeat (first | (with_reducible first | exact HK.out | apply KeepBut.set_ | apply keep_drewN | apply keep_drew | apply keep_alloc) | exact HK.out)⟩
      ·rw [if_neg c38] at H
       exact absurd H (by simp)
     ·rw [if_neg c37] at H
      exact absurd H (by simp)
    ·rw [if_neg c36] at H
     exact absurd H (by simp)
end Go.Proofs.YtmocooihkobdjaaDoor.G
end
section
namespace Go.Proofs.YtmocooihkobdjaaDoor.G
open Go.RowKit Go.Proofs.YtmocooihkobdjaaDoorW.PrintWords Go.Proofs.YtmocooihkobdjaaDoorW.PrintLast Go.Proofs.YtmocooihkobdjaaDoorW.PrintMore
attribute [local go_sem] max2_int min2_int max_two min_two max_three min_three max_four min_four
set_option linter.unusedVariables false
set_option linter.unusedSimpArgs false
def opOf (m : ByteArray) : Int := if m.toList = [60, 60] then 1 else if m.toList = [60, 61] then 2 else if m.toList = [61] then 3 else if m.toList = [62, 61] then 4 else if m.toList = [62, 62] then 5 else 0
def opTo (m : ByteArray) (z : Int) : Int := if opOf m ≤ z then opOf m else 0
theorem opOf_bd (m : ByteArray) : 0 ≤ opOf m ∧ opOf m ≤ 5 := by
  unfold opOf
  repeat' split
  all_goals omega
theorem opIdxR0 (w : World) : (Instr.index 106 (.agg #[.int .i64 1, .string ⟨#[60, 60]⟩, .int .i64 2, .string ⟨#[60, 61]⟩, .int .i64 3, .string ⟨#[61]⟩, .int .i64 4, .string ⟨#[62, 61]⟩, .int .i64 5, .string ⟨#[62, 62]⟩]) (.int .i64 0)).run Tryd.prog w = .ok (.agg #[.int .i64 1, .string ⟨#[60, 60]⟩]) w := by kernel_rfl
theorem opIdxR1 (w : World) : (Instr.index 106 (.agg #[.int .i64 1, .string ⟨#[60, 60]⟩, .int .i64 2, .string ⟨#[60, 61]⟩, .int .i64 3, .string ⟨#[61]⟩, .int .i64 4, .string ⟨#[62, 61]⟩, .int .i64 5, .string ⟨#[62, 62]⟩]) (.int .i64 1)).run Tryd.prog w = .ok (.agg #[.int .i64 2, .string ⟨#[60, 61]⟩]) w := by kernel_rfl
theorem opIdxR2 (w : World) : (Instr.index 106 (.agg #[.int .i64 1, .string ⟨#[60, 60]⟩, .int .i64 2, .string ⟨#[60, 61]⟩, .int .i64 3, .string ⟨#[61]⟩, .int .i64 4, .string ⟨#[62, 61]⟩, .int .i64 5, .string ⟨#[62, 62]⟩]) (.int .i64 2)).run Tryd.prog w = .ok (.agg #[.int .i64 3, .string ⟨#[61]⟩]) w := by kernel_rfl
theorem opIdxR3 (w : World) : (Instr.index 106 (.agg #[.int .i64 1, .string ⟨#[60, 60]⟩, .int .i64 2, .string ⟨#[60, 61]⟩, .int .i64 3, .string ⟨#[61]⟩, .int .i64 4, .string ⟨#[62, 61]⟩, .int .i64 5, .string ⟨#[62, 62]⟩]) (.int .i64 3)).run Tryd.prog w = .ok (.agg #[.int .i64 4, .string ⟨#[62, 61]⟩]) w := by kernel_rfl
theorem opIdxR4 (w : World) : (Instr.index 106 (.agg #[.int .i64 1, .string ⟨#[60, 60]⟩, .int .i64 2, .string ⟨#[60, 61]⟩, .int .i64 3, .string ⟨#[61]⟩, .int .i64 4, .string ⟨#[62, 61]⟩, .int .i64 5, .string ⟨#[62, 62]⟩]) (.int .i64 4)).run Tryd.prog w = .ok (.agg #[.int .i64 5, .string ⟨#[62, 62]⟩]) w := by kernel_rfl
theorem opOf_iff (m : ByteArray) : (opOf m = 1 ↔ m.toList = [60, 60]) ∧ (opOf m = 2 ↔ m.toList = [60, 61]) ∧ (opOf m = 3 ↔ m.toList = [61]) ∧ (opOf m = 4 ↔ m.toList = [62, 61]) ∧ (opOf m = 5 ↔ m.toList = [62, 62]) := by
  unfold opOf
  repeat' split
  all_goals simp_all
theorem opTo_zero (m : ByteArray) : opTo m 0 = 0 := by
  have := opOf_bd m
  unfold opTo
  split <;> omega
theorem opTo_five (m : ByteArray) : opTo m 5 = opOf m := if_pos (opOf_bd m).2
theorem opTo_hit (m : ByteArray) (z : Int) (h : opOf m = z) : opTo m z = z := by
  unfold opTo
  rw [if_pos (by omega), h]
theorem opTo_miss (m : ByteArray) (z : Int) (h : ¬ opOf m = z + 1) : opTo m (z + 1) = opTo m z := by
  unfold opTo
  by_cases h2 : opOf m ≤ z
  · rw [if_pos h2, if_pos (by omega)]
  · rw [if_neg h2, if_neg (by omega)]
theorem below_alloc' {w0 w : World} (h : Below w0.heap.size w0 w) (o : Obj) : Below w0.heap.size w0 (w.alloc o) := h.alloc h.size o
theorem below_setN {w0 w : World} {j : Nat} {v : Value} {b : Nat} (h : Below w0.heap.size w0 w) (hb : w0.heap.size ≤ b) : Below w0.heap.size w0 (w.setCell ⟨b, j, none⟩ v) := h.setCell hb _
def noRel (e : Int) (s : ByteArray) (a : Int) : ByteArray × Int × ByteArray × Int × ByteArray × Int := (⟨#[]⟩, 0, ⟨#[]⟩, e, s, a)
def relation_reader_relation.f (k : Nat) (s0_0 : ByteArray) (s0_1 : Int) : Option (ByteArray × Int × ByteArray × Int × ByteArray × Int) :=
  (relation_reader_run.f k s0_0 s0_1 false).bind fun x1 => if x1.1.toList = [] then some (noRel 220 x1.2.1 x1.2.2) else
  (relation_Name.f k x1.1).bind fun nm => if nm = false then some (noRel 230 x1.2.1 x1.2.2) else
  (relation_reader_pass.f k x1.2.1 x1.2.2 x1.1.size).bind fun x2 => (relation_reader_takes.f k x2.1 x2.2 40).bind fun x3 => if x3.1 = false then some (x1.1, 0, ⟨#[]⟩, 0, x3.2.1, x3.2.2) else
  (relation_reader_run.f k x3.2.1 x3.2.2 true).bind fun x4 => if opOf x4.1 = 0 then some (noRel 220 x4.2.1 x4.2.2) else
  (relation_reader_pass.f k x4.2.1 x4.2.2 x4.1.size).bind fun x5 => (relation_reader_run.f k x5.1 x5.2 false).bind fun x6 => if x6.1.toList = [] then some (noRel 220 x6.2.1 x6.2.2) else
  (version_Legal.f k x6.1).bind fun lg => if lg = false then some (noRel 200 x6.2.1 x6.2.2) else
  (relation_reader_pass.f k x6.2.1 x6.2.2 x6.1.size).bind fun x7 => (relation_reader_takes.f k x7.1 x7.2 41).bind fun x8 => if x8.1 = false then some (noRel 220 x8.2.1 x8.2.2) else some (x1.1, opOf x4.1, x6.1, 0, x8.2.1, x8.2.2)
theorem relation_reader_relation.mono : ∀ a0 a1 k, LeO (relation_reader_relation.f k a0 a1) (relation_reader_relation.f (k + 1) a0 a1) := by
  intro a0 a1 k
  unfold relation_reader_relation.f
  repeat' first
      | (with_reducible exact relation_reader_run.mono _ _ _ _)
      | (with_reducible exact relation_Name.mono _ _)
      | (with_reducible exact relation_reader_pass.mono _ _ _ _)
      | (with_reducible exact relation_reader_takes.mono _ _ _ _)
      | (with_reducible exact version_Legal.mono _ _)
      | (with_reducible exact LeO.refl _)
      | (with_reducible refine LeO.ite ?_ ?_)
      | (with_reducible refine LeO.bind ?_ (fun _ => ?_))
set_option maxHeartbeats 8000000 in
set_option maxRecDepth 1000000 in
theorem relation_reader_relation.calls (k : Nat) (g : Nat) (s0_0 : ByteArray) (s0_1 : Int) (r1 : ByteArray) (r2 : Int) (r3 : ByteArray) (r4 : Int) (r5 : ByteArray) (r6 : Int) (w0 w : World) (hI : IsS135 w0 w g s0_0 s0_1) (hB : Below w0.heap.size w0 w) (hG : GG w0) (h : relation_reader_relation.f k s0_0 s0_1 = some (r1, r2, r3, r4, r5, r6)) :
    Calls Tryd.prog 108 #[.pointer (some ⟨g, 0, none⟩)] w fun e w' => e = .returned (.tuple #[.agg #[.string r1, .int .i64 r2, .string r3], .int .i64 r4]) ∧ IsS135 w0 w' g r5 r6 ∧ Below w0.heap.size w0 w' ∧ KeepBut w w' g none := by
  unfold relation_reader_relation.f at h
  have hu23 := Tryd.underlying46
  have hu65 := Tryd.underlying105
  have hlt := hI.lt
  have Hlt := Lib.hid hlt
  have Hge := Lib.hid hI.ge
  have HI0 := Lib.hid (hI.alloc (.cells #[.string ⟨#[]⟩, .int .i64 0, .string ⟨#[]⟩] 46 (0, 0)))
  have HB0 := Lib.hid (below_alloc' hB (.cells #[.string ⟨#[]⟩, .int .i64 0, .string ⟨#[]⟩] 46 (0, 0)))
  have HK0 := Lib.hid (keep_alloc (KeepBut.refl w g none) (.cells #[.string ⟨#[]⟩, .int .i64 0, .string ⟨#[]⟩] 46 (0, 0)))
  have HR0 := Lib.hid (blk_new w (.cells #[.string ⟨#[]⟩, .int .i64 0, .string ⟨#[]⟩] 46 (0, 0)))
  have HG := Lib.hid hG
  clear hI hB hG hlt
  have Hbw : Hid (w0.heap.size ≤ w.heap.size) := Nat.le_of_lt (Nat.lt_of_le_of_lt Hge.out Hlt.out)
  replace h := Option.bind_eq_some_iff.mp h
  obtain ⟨⟨v1, s1, a1⟩, h1, h⟩ := h
  have H1 := Lib.hid h1; clear h1
  have H := Lib.hid h; clear h
  go_enter Tryd.func108, Tryd.ntmps108
  go_wp2_with fail
  refine (relation_reader_run.calls _ _ _ _ _ _ _ _ w0 _ HI0.out HB0.out H1.out).mono ?_
  rintro e w1 ⟨rfl, hI, hB, hK⟩
  have HI1 := Lib.hid hI; have HB1 := Lib.hid hB; have HK1 := Lib.hid (KeepBut.trans HK0.out hK (.inl rfl))
  have HR1 := Lib.hid (hK.blk HR0.out (Nat.ne_of_gt Hlt.out) (by simp))
  clear hI hB hK
  by_cases e1 : v1.toList = []
  · have h := H.out
    rw [if_pos e1] at h
    simp only [Option.some.injEq, noRel, Prod.mk.injEq] at h
    obtain ⟨rfl, rfl, rfl, rfl, rfl, rfl⟩ := h
    have e1b : v1.toList.isEmpty = true := by rw [e1]; rfl
    have rc0 := blk_cell HR1.out 0
    have rc1 := blk_cell HR1.out 1
    have rc2 := blk_cell HR1.out 2
    have rz0 := blk_frozen HR1.out 0
    have rz1 := blk_frozen HR1.out 1
    have rz2 := blk_frozen HR1.out 2
    simp only [List.getElem?_toArray, List.getElem?_cons_succ, List.getElem?_cons_zero] at rc0 rc1 rc2
    go_wp2_with fail
    refine bodyPost_ret (results_ct rfl _ _ w.heap.size 46 #[.string ⟨#[]⟩, .int .i64 0, .string ⟨#[]⟩] (0, 0) _ rfl (blk_put (blk_put (blk_put HR1.out 0 _ rfl) 1 _ rfl) 2 _ rfl) Tryd.underlying46 rfl rfl) rfl ⟨rfl, (((HI1.out.far (Nat.ne_of_lt Hlt.out) _).far (Nat.ne_of_lt Hlt.out) _).far (Nat.ne_of_lt Hlt.out) _), below_setN (below_setN (below_setN HB1.out Hbw.out) Hbw.out) Hbw.out, keep_far (keep_far (keep_far HK1.out (Nat.le_refl _) _) (Nat.le_refl _) _) (Nat.le_refl _) _⟩
  have h := H.out
  clear H
  rw [if_neg e1] at h
  have e1b : v1.toList.isEmpty = false := by simpa using e1
  clear e1
  replace h := Option.bind_eq_some_iff.mp h
  obtain ⟨nm, h2, h⟩ := h
  have H2 := Lib.hid h2; clear h2
  have H := Lib.hid h; clear h
  go_wp2_with fail
  refine (relation_Name.calls _ _ _ _ H2.out).mono ?_
  rintro e w2 ⟨rfl, hd⟩
  have Hd := Lib.hid hd; clear hd
  clear e1b
  have HI2 : Hid (IsS135 w0 w2 g s1 a1) := by obtain ⟨nd, rfl⟩ := Hd.out.out; exact HI1.out.drewN nd
  have HB2 : Hid (Below w0.heap.size w0 w2) := by obtain ⟨nd, rfl⟩ := Hd.out.out; exact pw_below_drewN HB1.out nd
  have HK2 : Hid (KeepBut w w2 g none) := by obtain ⟨nd, rfl⟩ := Hd.out.out; exact keep_drewN HK1.out nd
  have HR2 : Hid (w2.heap[w.heap.size]? = some (.cells #[.string ⟨#[]⟩, .int .i64 0, .string ⟨#[]⟩] 46 (0, 0))) := by obtain ⟨nd, rfl⟩ := Hd.out.out; exact blk_drewN HR1.out nd
  cases nm with
  | false =>
    have h := H.out
    rw [if_pos rfl] at h
    simp only [Option.some.injEq, noRel, Prod.mk.injEq] at h
    obtain ⟨rfl, rfl, rfl, rfl, rfl, rfl⟩ := h
    have rc0 := blk_cell HR2.out 0
    have rc1 := blk_cell HR2.out 1
    have rc2 := blk_cell HR2.out 2
    have rz0 := blk_frozen HR2.out 0
    have rz1 := blk_frozen HR2.out 1
    have rz2 := blk_frozen HR2.out 2
    simp only [List.getElem?_toArray, List.getElem?_cons_succ, List.getElem?_cons_zero] at rc0 rc1 rc2
    go_wp2_with fail
    refine bodyPost_ret (results_ct rfl _ _ w.heap.size 46 #[.string ⟨#[]⟩, .int .i64 0, .string ⟨#[]⟩] (0, 0) _ rfl (blk_put (blk_put (blk_put HR2.out 0 _ rfl) 1 _ rfl) 2 _ rfl) Tryd.underlying46 rfl rfl) rfl ⟨rfl, (((HI2.out.far (Nat.ne_of_lt Hlt.out) _).far (Nat.ne_of_lt Hlt.out) _).far (Nat.ne_of_lt Hlt.out) _), below_setN (below_setN (below_setN HB2.out Hbw.out) Hbw.out) Hbw.out, keep_far (keep_far (keep_far HK2.out (Nat.le_refl _) _) (Nat.le_refl _) _) (Nat.le_refl _) _⟩
  | true =>
    have h := H.out
    clear H
    rw [if_neg (by simp)] at h
    replace h := Option.bind_eq_some_iff.mp h
    obtain ⟨⟨s2, a2⟩, h3, h⟩ := h
    have H3 := Lib.hid h3; clear h3
    replace h := Option.bind_eq_some_iff.mp h
    obtain ⟨⟨b3, s3, a3⟩, h4, h⟩ := h
    have H4 := Lib.hid h4; clear h4
    have H := Lib.hid h; clear h
    have HW1 : Hid (w.heap.size < w2.heap.size) := blk_lt HR2.out
    have HNP : Hid (w2.heap.size ≠ g) := Nat.ne_of_gt (Nat.lt_trans Hlt.out HW1.out)
    have HNRP : Hid (w.heap.size ≠ w2.heap.size) := Nat.ne_of_lt HW1.out
    have HBP : Hid (w0.heap.size ≤ w2.heap.size) := Nat.le_trans Hbw.out (Nat.le_of_lt HW1.out)
    have HIa := Lib.hid (HI2.out.alloc (.cells #[.string v1, .int .i64 0, .string ⟨#[]⟩] 46 (0, 0))); have HBa := Lib.hid (below_alloc' HB2.out (.cells #[.string v1, .int .i64 0, .string ⟨#[]⟩] 46 (0, 0))); have HKa := Lib.hid (keep_alloc HK2.out (.cells #[.string v1, .int .i64 0, .string ⟨#[]⟩] 46 (0, 0))); have HRa := Lib.hid (blk_alloc HR2.out (.cells #[.string v1, .int .i64 0, .string ⟨#[]⟩] 46 (0, 0))); have HPa := Lib.hid (blk_new w2 (.cells #[.string v1, .int .i64 0, .string ⟨#[]⟩] 46 (0, 0)))
    go_wp2_with fail
    refine (relation_reader_pass.calls _ _ _ _ _ _ _ w0 _ HIa.out HBa.out H3.out).mono ?_
    rintro e wb ⟨rfl, hI, hB, hK⟩
    have HIb := Lib.hid hI; have HBb := Lib.hid hB; have HKb := Lib.hid (KeepBut.trans HKa.out hK (.inl rfl))
    have HRb := Lib.hid (hK.blk HRa.out (Nat.ne_of_gt Hlt.out) (by simp))
    have HPb := Lib.hid (hK.blk HPa.out HNP.out (by simp))
    clear hI hB hK
    go_wp2_with fail
    refine (relation_reader_takes.calls _ _ _ _ _ _ _ _ w0 _ HIb.out HBb.out H4.out).mono ?_
    rintro e wc ⟨rfl, hI, hB, hK⟩
    have HIc := Lib.hid hI; have HBc := Lib.hid hB; have HKc := Lib.hid (KeepBut.trans HKb.out hK (.inl rfl))
    have HRc := Lib.hid (hK.blk HRb.out (Nat.ne_of_gt Hlt.out) (by simp))
    have HPc := Lib.hid (hK.blk HPb.out HNP.out (by simp))
    clear hI hB hK
    cases b3 with
    | false =>
      have h := H.out
      rw [if_pos rfl] at h
      simp only [Option.some.injEq, Prod.mk.injEq] at h
      obtain ⟨rfl, rfl, rfl, rfl, rfl, rfl⟩ := h
      have rc0 := blk_cell HRc.out 0
      have rc1 := blk_cell HRc.out 1
      have rc2 := blk_cell HRc.out 2
      have rz0 := blk_frozen HRc.out 0
      have rz1 := blk_frozen HRc.out 1
      have rz2 := blk_frozen HRc.out 2
      simp only [List.getElem?_toArray, List.getElem?_cons_succ, List.getElem?_cons_zero] at rc0 rc1 rc2
      have pc0 := blk_cell HPc.out 0
      have pc1 := blk_cell HPc.out 1
      have pc2 := blk_cell HPc.out 2
      simp only [List.getElem?_toArray, List.getElem?_cons_succ, List.getElem?_cons_zero] at pc0 pc1 pc2
      go_wp2_with fail
      refine bodyPost_ret (results_ct rfl _ _ w.heap.size 46 #[.string v1, .int .i64 0, .string ⟨#[]⟩] (0, 0) _ rfl (blk_put (blk_put (blk_put HRc.out 0 _ rfl) 1 _ rfl) 2 _ rfl) Tryd.underlying46 rfl rfl) rfl ⟨rfl, (((HIc.out.far (Nat.ne_of_lt Hlt.out) _).far (Nat.ne_of_lt Hlt.out) _).far (Nat.ne_of_lt Hlt.out) _), below_setN (below_setN (below_setN HBc.out Hbw.out) Hbw.out) Hbw.out, keep_far (keep_far (keep_far HKc.out (Nat.le_refl _) _) (Nat.le_refl _) _) (Nat.le_refl _) _⟩
    | true =>
      have h := H.out
      clear H
      rw [if_neg (by simp)] at h
      replace h := Option.bind_eq_some_iff.mp h
      obtain ⟨⟨m4, s4, a4⟩, h5, h⟩ := h
      have H5 := Lib.hid h5; clear h5
      have H := Lib.hid h; clear h
      go_wp2_with fail
      refine (relation_reader_run.calls _ _ _ _ _ _ _ _ w0 _ HIc.out HBc.out H5.out).mono ?_
      rintro e wd ⟨rfl, hI, hB, hK⟩
      have HId := Lib.hid hI; have HBd := Lib.hid hB; have HKd := Lib.hid (KeepBut.trans HKc.out hK (.inl rfl))
      have HRd := Lib.hid (hK.blk HRc.out (Nat.ne_of_gt Hlt.out) (by simp))
      have HPd := Lib.hid (hK.blk HPc.out HNP.out (by simp))
      clear hI hB hK
      have HGd := Lib.hid (GG.below HG.out HBd.out)
      obtain ⟨tg, fg, hG0⟩ := HGd.out.ops
      have HG0 := Lib.hid hG0; clear hG0
      have i0 := opIdxR0; have i1 := opIdxR1; have i2 := opIdxR2; have i3 := opIdxR3; have i4 := opIdxR4
      go_wp2_with (refine wpList_load_row rfl 106 _ rfl 0 rfl tg _ fg _ HG0.out Tryd.underlying106 rfl (by kernel_rfl) ?_; unfold opCells)
      go_loopw [32] (fun v wr => ∃ z : Int, 0 ≤ z ∧ z ≤ 5 ∧ v = .int .i64 z ∧ Hid (IsS135 w0 wr g s4 a4) ∧ Hid (Below w0.heap.size w0 wr) ∧ Hid (KeepBut w wr g none) ∧ Hid (wr.heap[w.heap.size]? = some (.cells #[.string ⟨#[]⟩, .int .i64 0, .string ⟨#[]⟩] 46 (0, 0))) ∧ Hid (wr.heap[w2.heap.size]? = some (.cells #[.string v1, .int .i64 (opTo m4 z), .string ⟨#[]⟩] 46 (0, 0)))) (fun v _ => (5 - intOf v).toNat)
      case atStart => exact ⟨0, by omega, by omega, rfl, HId.out, HBd.out, HKd.out, HRd.out, by rw [opTo_zero]; exact HPd.out⟩
      case round =>
        obtain ⟨z, z0, z5, rfl, hI, hB, hK, hR, hP⟩ := hrel
        have HIe := Lib.hid hI.out; have HBe := Lib.hid hB.out; have HKe := Lib.hid hK.out; have HRe := Lib.hid hR.out; have HPe := Lib.hid hP.out
        clear hI hB hK hR hP
        have Hz : z = 0 ∨ z = 1 ∨ z = 2 ∨ z = 3 ∨ z = 4 ∨ z = 5 := by omega
        rcases Hz with rfl | rfl | rfl | rfl | rfl | rfl
        case inl =>
          by_cases he : opOf m4 = 1
          · have hl := (opOf_iff m4).1.1 he
            have hb1 : (([60, 60] : List UInt8) == m4.toList) = true := by rw [hl]; rfl
            have hpc : ∀ o, (wr.alloc o).cell? ⟨w2.heap.size, 1, none⟩ = some (.int .i64 (opTo m4 0)) := fun o => blk_cell (blk_alloc HPe.out o) 1
            have hpz : ∀ o, (wr.alloc o).frozen? ⟨w2.heap.size, 1, none⟩ = false := fun o => blk_frozen (blk_alloc HPe.out o) 1
            have Het := Lib.hid (opTo_hit m4 1 he)
            clear hl he
            go_wp2_with fail
            go_roundw
            case rel => exact ⟨1, by omega, by omega, rfl, (HIe.out.alloc _).far (Ne.symm HNP.out) _, below_setN (below_alloc' HBe.out _) HBP.out, keep_far (keep_alloc HKe.out _) (Nat.le_of_lt HW1.out) _, blk_far (blk_alloc HRe.out _) HNRP.out _, by rw [Het.out]; exact blk_put (blk_alloc HPe.out _) 1 _ rfl⟩
            case measure => simp [intOf]
          · have hl : ¬ m4.toList = [60, 60] := fun q => he ((opOf_iff m4).1.2 q)
            have hb1 : (([60, 60] : List UInt8) == m4.toList) = false := by rw [beq_eq_false_iff_ne]; exact fun q => hl q.symm
            have Het : Hid (opTo m4 1 = opTo m4 0) := opTo_miss m4 0 he
            clear hl he
            go_wp2_with fail
            go_roundw
            case rel => exact ⟨1, by omega, by omega, rfl, HIe.out.alloc _, below_alloc' HBe.out _, keep_alloc HKe.out _, blk_alloc HRe.out _, by rw [Het.out]; exact blk_alloc HPe.out _⟩
            case measure => simp [intOf]
        case inr.inl =>
          by_cases he : opOf m4 = 2
          · have hl := (opOf_iff m4).2.1.1 he
            have hb1 : (([60, 61] : List UInt8) == m4.toList) = true := by rw [hl]; rfl
            have hpc : ∀ o, (wr.alloc o).cell? ⟨w2.heap.size, 1, none⟩ = some (.int .i64 (opTo m4 1)) := fun o => blk_cell (blk_alloc HPe.out o) 1
            have hpz : ∀ o, (wr.alloc o).frozen? ⟨w2.heap.size, 1, none⟩ = false := fun o => blk_frozen (blk_alloc HPe.out o) 1
            have Het := Lib.hid (opTo_hit m4 2 he)
            clear hl he
            go_wp2_with fail
            go_roundw
            case rel => exact ⟨2, by omega, by omega, rfl, (HIe.out.alloc _).far (Ne.symm HNP.out) _, below_setN (below_alloc' HBe.out _) HBP.out, keep_far (keep_alloc HKe.out _) (Nat.le_of_lt HW1.out) _, blk_far (blk_alloc HRe.out _) HNRP.out _, by rw [Het.out]; exact blk_put (blk_alloc HPe.out _) 1 _ rfl⟩
            case measure => simp [intOf]
          · have hl : ¬ m4.toList = [60, 61] := fun q => he ((opOf_iff m4).2.1.2 q)
            have hb1 : (([60, 61] : List UInt8) == m4.toList) = false := by rw [beq_eq_false_iff_ne]; exact fun q => hl q.symm
            have Het : Hid (opTo m4 2 = opTo m4 1) := opTo_miss m4 1 he
            clear hl he
            go_wp2_with fail
            go_roundw
            case rel => exact ⟨2, by omega, by omega, rfl, HIe.out.alloc _, below_alloc' HBe.out _, keep_alloc HKe.out _, blk_alloc HRe.out _, by rw [Het.out]; exact blk_alloc HPe.out _⟩
            case measure => simp [intOf]
        case inr.inr.inl =>
          by_cases he : opOf m4 = 3
          · have hl := (opOf_iff m4).2.2.1.1 he
            have hb1 : (([61] : List UInt8) == m4.toList) = true := by rw [hl]; rfl
            have hpc : ∀ o, (wr.alloc o).cell? ⟨w2.heap.size, 1, none⟩ = some (.int .i64 (opTo m4 2)) := fun o => blk_cell (blk_alloc HPe.out o) 1
            have hpz : ∀ o, (wr.alloc o).frozen? ⟨w2.heap.size, 1, none⟩ = false := fun o => blk_frozen (blk_alloc HPe.out o) 1
            have Het := Lib.hid (opTo_hit m4 3 he)
            clear hl he
            go_wp2_with fail
            go_roundw
            case rel => exact ⟨3, by omega, by omega, rfl, (HIe.out.alloc _).far (Ne.symm HNP.out) _, below_setN (below_alloc' HBe.out _) HBP.out, keep_far (keep_alloc HKe.out _) (Nat.le_of_lt HW1.out) _, blk_far (blk_alloc HRe.out _) HNRP.out _, by rw [Het.out]; exact blk_put (blk_alloc HPe.out _) 1 _ rfl⟩
            case measure => simp [intOf]
          · have hl : ¬ m4.toList = [61] := fun q => he ((opOf_iff m4).2.2.1.2 q)
            have hb1 : (([61] : List UInt8) == m4.toList) = false := by rw [beq_eq_false_iff_ne]; exact fun q => hl q.symm
            have Het : Hid (opTo m4 3 = opTo m4 2) := opTo_miss m4 2 he
            clear hl he
            go_wp2_with fail
            go_roundw
            case rel => exact ⟨3, by omega, by omega, rfl, HIe.out.alloc _, below_alloc' HBe.out _, keep_alloc HKe.out _, blk_alloc HRe.out _, by rw [Het.out]; exact blk_alloc HPe.out _⟩
            case measure => simp [intOf]
        case inr.inr.inr.inl =>
          by_cases he : opOf m4 = 4
          · have hl := (opOf_iff m4).2.2.2.1.1 he
            have hb1 : (([62, 61] : List UInt8) == m4.toList) = true := by rw [hl]; rfl
            have hpc : ∀ o, (wr.alloc o).cell? ⟨w2.heap.size, 1, none⟩ = some (.int .i64 (opTo m4 3)) := fun o => blk_cell (blk_alloc HPe.out o) 1
            have hpz : ∀ o, (wr.alloc o).frozen? ⟨w2.heap.size, 1, none⟩ = false := fun o => blk_frozen (blk_alloc HPe.out o) 1
            have Het := Lib.hid (opTo_hit m4 4 he)
            clear hl he
            go_wp2_with fail
            go_roundw
            case rel => exact ⟨4, by omega, by omega, rfl, (HIe.out.alloc _).far (Ne.symm HNP.out) _, below_setN (below_alloc' HBe.out _) HBP.out, keep_far (keep_alloc HKe.out _) (Nat.le_of_lt HW1.out) _, blk_far (blk_alloc HRe.out _) HNRP.out _, by rw [Het.out]; exact blk_put (blk_alloc HPe.out _) 1 _ rfl⟩
            case measure => simp [intOf]
          · have hl : ¬ m4.toList = [62, 61] := fun q => he ((opOf_iff m4).2.2.2.1.2 q)
            have hb1 : (([62, 61] : List UInt8) == m4.toList) = false := by rw [beq_eq_false_iff_ne]; exact fun q => hl q.symm
            have Het : Hid (opTo m4 4 = opTo m4 3) := opTo_miss m4 3 he
            clear hl he
            go_wp2_with fail
            go_roundw
            case rel => exact ⟨4, by omega, by omega, rfl, HIe.out.alloc _, below_alloc' HBe.out _, keep_alloc HKe.out _, blk_alloc HRe.out _, by rw [Het.out]; exact blk_alloc HPe.out _⟩
            case measure => simp [intOf]
        case inr.inr.inr.inr.inl =>
          by_cases he : opOf m4 = 5
          · have hl := (opOf_iff m4).2.2.2.2.1 he
            have hb1 : (([62, 62] : List UInt8) == m4.toList) = true := by rw [hl]; rfl
            have hpc : ∀ o, (wr.alloc o).cell? ⟨w2.heap.size, 1, none⟩ = some (.int .i64 (opTo m4 4)) := fun o => blk_cell (blk_alloc HPe.out o) 1
            have hpz : ∀ o, (wr.alloc o).frozen? ⟨w2.heap.size, 1, none⟩ = false := fun o => blk_frozen (blk_alloc HPe.out o) 1
            have Het := Lib.hid (opTo_hit m4 5 he)
            clear hl he
            go_wp2_with fail
            go_roundw
            case rel => exact ⟨5, by omega, by omega, rfl, (HIe.out.alloc _).far (Ne.symm HNP.out) _, below_setN (below_alloc' HBe.out _) HBP.out, keep_far (keep_alloc HKe.out _) (Nat.le_of_lt HW1.out) _, blk_far (blk_alloc HRe.out _) HNRP.out _, by rw [Het.out]; exact blk_put (blk_alloc HPe.out _) 1 _ rfl⟩
            case measure => simp [intOf]
          · have hl : ¬ m4.toList = [62, 62] := fun q => he ((opOf_iff m4).2.2.2.2.2 q)
            have hb1 : (([62, 62] : List UInt8) == m4.toList) = false := by rw [beq_eq_false_iff_ne]; exact fun q => hl q.symm
            have Het : Hid (opTo m4 5 = opTo m4 4) := opTo_miss m4 4 he
            clear hl he
            go_wp2_with fail
            go_roundw
            case rel => exact ⟨5, by omega, by omega, rfl, HIe.out.alloc _, below_alloc' HBe.out _, keep_alloc HKe.out _, blk_alloc HRe.out _, by rw [Het.out]; exact blk_alloc HPe.out _⟩
            case measure => simp [intOf]
        case inr.inr.inr.inr.inr =>
          have hd5 : decide ((5 : Int) < 5) = false := by decide
          obtain ⟨o4, Ho4⟩ : ∃ o, Hid (opOf m4 = o) := ⟨_, rfl⟩
          have HPf := Lib.hid (Ho4.out ▸ opTo_five m4 ▸ HPe.out)
          clear HPe
          have pc0 := blk_cell HPf.out 0
          have pc1 := blk_cell HPf.out 1
          have pc2 := blk_cell HPf.out 2
          simp only [List.getElem?_toArray, List.getElem?_cons_succ, List.getElem?_cons_zero] at pc0 pc1 pc2
          cases ho : decide (o4 = 0) with
          | true =>
            have ho1 := of_decide_eq_true ho
            have h := H.out
            rw [if_pos (Ho4.out.trans ho1)] at h
            simp only [Option.some.injEq, noRel, Prod.mk.injEq] at h
            obtain ⟨rfl, rfl, rfl, rfl, rfl, rfl⟩ := h
            have hob : (o4 == 0) = true := beq_iff_eq.2 ho1
            clear ho ho1 H
            have rc0 := blk_cell HRe.out 0
            have rc1 := blk_cell HRe.out 1
            have rc2 := blk_cell HRe.out 2
            have rz0 := blk_frozen HRe.out 0
            have rz1 := blk_frozen HRe.out 1
            have rz2 := blk_frozen HRe.out 2
            simp only [List.getElem?_toArray, List.getElem?_cons_succ, List.getElem?_cons_zero] at rc0 rc1 rc2
            go_wp2_with fail
            refine bodyPost_ret (results_ct rfl _ _ w.heap.size 46 #[.string ⟨#[]⟩, .int .i64 0, .string ⟨#[]⟩] (0, 0) _ rfl (blk_put (blk_put (blk_put HRe.out 0 _ rfl) 1 _ rfl) 2 _ rfl) Tryd.underlying46 rfl rfl) rfl ⟨rfl, (((HIe.out.far (Nat.ne_of_lt Hlt.out) _).far (Nat.ne_of_lt Hlt.out) _).far (Nat.ne_of_lt Hlt.out) _), below_setN (below_setN (below_setN HBe.out Hbw.out) Hbw.out) Hbw.out, keep_far (keep_far (keep_far HKe.out (Nat.le_refl _) _) (Nat.le_refl _) _) (Nat.le_refl _) _⟩
          | false =>
            have ho1 := of_decide_eq_false ho
            have h := H.out
            clear H
            rw [if_neg (fun q => ho1 (Ho4.out.symm.trans q))] at h
            have hob : (o4 == 0) = false := beq_eq_false_iff_ne.2 ho1
            clear ho ho1
            replace h := Option.bind_eq_some_iff.mp h
            obtain ⟨⟨s5, a5⟩, h6, h⟩ := h
            have H6 := Lib.hid h6; clear h6
            replace h := Option.bind_eq_some_iff.mp h
            obtain ⟨⟨v6, s6, a6⟩, h7, h⟩ := h
            have H7 := Lib.hid h7; clear h7
            have H := Lib.hid h; clear h
            go_wp2_with fail
            clear pc0 pc1 pc2 hob
            have HRf := HRe; have HIf := HIe; have HBf := HBe; have HKf := HKe
            refine (relation_reader_pass.calls _ _ _ _ _ _ _ w0 _ HIf.out HBf.out H6.out).mono ?_
            rintro e wh ⟨rfl, hI, hB, hK⟩
            have HIh := Lib.hid hI; have HBh := Lib.hid hB; have HKh := Lib.hid (KeepBut.trans HKf.out hK (.inl rfl))
            have HRh := Lib.hid (hK.blk HRf.out (Nat.ne_of_gt Hlt.out) (by simp))
            have HPh := Lib.hid (hK.blk HPf.out HNP.out (by simp))
            clear hI hB hK
            go_wp2_with fail
            refine (relation_reader_run.calls _ _ _ _ _ _ _ _ w0 _ HIh.out HBh.out H7.out).mono ?_
            rintro e wi ⟨rfl, hI, hB, hK⟩
            have HIi := Lib.hid hI; have HBi := Lib.hid hB; have HKi := Lib.hid (KeepBut.trans HKh.out hK (.inl rfl))
            have HRi := Lib.hid (hK.blk HRh.out (Nat.ne_of_gt Hlt.out) (by simp))
            have HPi := Lib.hid (hK.blk HPh.out HNP.out (by simp))
            clear hI hB hK
            by_cases e6 : v6.toList = []
            · have h := H.out
              rw [if_pos e6] at h
              simp only [Option.some.injEq, noRel, Prod.mk.injEq] at h
              obtain ⟨rfl, rfl, rfl, rfl, rfl, rfl⟩ := h
              have e6b : v6.toList.isEmpty = true := by rw [e6]; rfl
              have rc0 := blk_cell HRi.out 0
              have rc1 := blk_cell HRi.out 1
              have rc2 := blk_cell HRi.out 2
              have rz0 := blk_frozen HRi.out 0
              have rz1 := blk_frozen HRi.out 1
              have rz2 := blk_frozen HRi.out 2
              simp only [List.getElem?_toArray, List.getElem?_cons_succ, List.getElem?_cons_zero] at rc0 rc1 rc2
              go_wp2_with fail
              refine bodyPost_ret (results_ct rfl _ _ w.heap.size 46 #[.string ⟨#[]⟩, .int .i64 0, .string ⟨#[]⟩] (0, 0) _ rfl (blk_put (blk_put (blk_put HRi.out 0 _ rfl) 1 _ rfl) 2 _ rfl) Tryd.underlying46 rfl rfl) rfl ⟨rfl, (((HIi.out.far (Nat.ne_of_lt Hlt.out) _).far (Nat.ne_of_lt Hlt.out) _).far (Nat.ne_of_lt Hlt.out) _), below_setN (below_setN (below_setN HBi.out Hbw.out) Hbw.out) Hbw.out, keep_far (keep_far (keep_far HKi.out (Nat.le_refl _) _) (Nat.le_refl _) _) (Nat.le_refl _) _⟩
            have h := H.out
            clear H
            rw [if_neg e6] at h
            have e6b : v6.toList.isEmpty = false := by simpa using e6
            clear e6
            replace h := Option.bind_eq_some_iff.mp h
            obtain ⟨lg, h8, h⟩ := h
            have H8 := Lib.hid h8; clear h8
            have H := Lib.hid h; clear h
            go_wp2_with fail
            refine (version_Legal.calls _ _ _ _ H8.out).mono ?_
            rintro e wj ⟨rfl, hb⟩
            clear e6b
            have HIj := Lib.hid (HIi.out.below hb); have HBj := Lib.hid (below_then HBi.out HBi.out.size hb); have HKj := Lib.hid (KeepBut.trans HKi.out (KeepBut.of_below hb g none) (.inl rfl)); have HRj := Lib.hid (blk_below HRi.out hb); have HPj := Lib.hid (blk_below HPi.out hb)
            clear hb
            cases lg with
            | false =>
              have h := H.out
              rw [if_pos rfl] at h
              simp only [Option.some.injEq, noRel, Prod.mk.injEq] at h
              obtain ⟨rfl, rfl, rfl, rfl, rfl, rfl⟩ := h
              have rc0 := blk_cell HRj.out 0
              have rc1 := blk_cell HRj.out 1
              have rc2 := blk_cell HRj.out 2
              have rz0 := blk_frozen HRj.out 0
              have rz1 := blk_frozen HRj.out 1
              have rz2 := blk_frozen HRj.out 2
              simp only [List.getElem?_toArray, List.getElem?_cons_succ, List.getElem?_cons_zero] at rc0 rc1 rc2
              go_wp2_with fail
              refine bodyPost_ret (results_ct rfl _ _ w.heap.size 46 #[.string ⟨#[]⟩, .int .i64 0, .string ⟨#[]⟩] (0, 0) _ rfl (blk_put (blk_put (blk_put HRj.out 0 _ rfl) 1 _ rfl) 2 _ rfl) Tryd.underlying46 rfl rfl) rfl ⟨rfl, (((HIj.out.far (Nat.ne_of_lt Hlt.out) _).far (Nat.ne_of_lt Hlt.out) _).far (Nat.ne_of_lt Hlt.out) _), below_setN (below_setN (below_setN HBj.out Hbw.out) Hbw.out) Hbw.out, keep_far (keep_far (keep_far HKj.out (Nat.le_refl _) _) (Nat.le_refl _) _) (Nat.le_refl _) _⟩
            | true =>
              have h := H.out
              clear H
              rw [if_neg (by simp)] at h
              replace h := Option.bind_eq_some_iff.mp h
              obtain ⟨⟨s7, a7⟩, h9, h⟩ := h
              have H9 := Lib.hid h9; clear h9
              replace h := Option.bind_eq_some_iff.mp h
              obtain ⟨⟨b8, s8, a8⟩, h10, h⟩ := h
              have H10 := Lib.hid h10; clear h10
              have H := Lib.hid h; clear h
              have pc0 := blk_cell HPj.out 0
              have pc1 := blk_cell HPj.out 1
              have pc2 := blk_cell HPj.out 2
              have pz0 := blk_frozen HPj.out 0
              have pz1 := blk_frozen HPj.out 1
              have pz2 := blk_frozen HPj.out 2
              simp only [List.getElem?_toArray, List.getElem?_cons_succ, List.getElem?_cons_zero] at pc0 pc1 pc2
              go_wp2_with fail
              clear pc0 pc1 pc2 pz0 pz1 pz2
              have HIk := Lib.hid (HIj.out.far (Ne.symm HNP.out) (p := ⟨w2.heap.size, 2, none⟩) (.string v6)); have HBk := Lib.hid (below_setN (j := 2) (v := .string v6) HBj.out HBP.out); have HKk := Lib.hid (keep_far (p := ⟨w2.heap.size, 2, none⟩) HKj.out (Nat.le_of_lt HW1.out) (.string v6)); have HRk := Lib.hid (blk_far (p := ⟨w2.heap.size, 2, none⟩) HRj.out HNRP.out (.string v6)); have HPk : Hid ((wj.setCell ⟨w2.heap.size, 2, none⟩ (.string v6)).heap[w2.heap.size]? = some (.cells #[.string v1, .int .i64 o4, .string v6] 46 (0, 0))) := blk_put HPj.out 2 (.string v6) rfl
              refine (relation_reader_pass.calls _ _ _ _ _ _ _ w0 _ HIk.out HBk.out H9.out).mono ?_
              rintro e wl ⟨rfl, hI, hB, hK⟩
              have HIl := Lib.hid hI; have HBl := Lib.hid hB; have HKl := Lib.hid (KeepBut.trans HKk.out hK (.inl rfl))
              have HRl := Lib.hid (hK.blk HRk.out (Nat.ne_of_gt Hlt.out) (by simp))
              have HPl := Lib.hid (hK.blk HPk.out HNP.out (by simp))
              clear hI hB hK
              go_wp2_with fail
              refine (relation_reader_takes.calls _ _ _ _ _ _ _ _ w0 _ HIl.out HBl.out H10.out).mono ?_
              rintro e wm ⟨rfl, hI, hB, hK⟩
              have HIm := Lib.hid hI; have HBm := Lib.hid hB; have HKm := Lib.hid (KeepBut.trans HKl.out hK (.inl rfl))
              have HRm := Lib.hid (hK.blk HRl.out (Nat.ne_of_gt Hlt.out) (by simp))
              have HPm := Lib.hid (hK.blk HPl.out HNP.out (by simp))
              clear hI hB hK
              cases b8 with
              | false =>
                have h := H.out
                rw [if_pos rfl] at h
                simp only [Option.some.injEq, noRel, Prod.mk.injEq] at h
                obtain ⟨rfl, rfl, rfl, rfl, rfl, rfl⟩ := h
                have rc0 := blk_cell HRm.out 0
                have rc1 := blk_cell HRm.out 1
                have rc2 := blk_cell HRm.out 2
                have rz0 := blk_frozen HRm.out 0
                have rz1 := blk_frozen HRm.out 1
                have rz2 := blk_frozen HRm.out 2
                simp only [List.getElem?_toArray, List.getElem?_cons_succ, List.getElem?_cons_zero] at rc0 rc1 rc2
                go_wp2_with fail
                refine bodyPost_ret (results_ct rfl _ _ w.heap.size 46 #[.string ⟨#[]⟩, .int .i64 0, .string ⟨#[]⟩] (0, 0) _ rfl (blk_put (blk_put (blk_put HRm.out 0 _ rfl) 1 _ rfl) 2 _ rfl) Tryd.underlying46 rfl rfl) rfl ⟨rfl, (((HIm.out.far (Nat.ne_of_lt Hlt.out) _).far (Nat.ne_of_lt Hlt.out) _).far (Nat.ne_of_lt Hlt.out) _), below_setN (below_setN (below_setN HBm.out Hbw.out) Hbw.out) Hbw.out, keep_far (keep_far (keep_far HKm.out (Nat.le_refl _) _) (Nat.le_refl _) _) (Nat.le_refl _) _⟩
              | true =>
                have h := H.out
                rw [if_neg (by simp)] at h
                simp only [Option.some.injEq, Prod.mk.injEq] at h
                obtain ⟨rfl, rfl, rfl, rfl, rfl, rfl⟩ := h
                clear H
                have rc0 := blk_cell HRm.out 0
                have rc1 := blk_cell HRm.out 1
                have rc2 := blk_cell HRm.out 2
                have rz0 := blk_frozen HRm.out 0
                have rz1 := blk_frozen HRm.out 1
                have rz2 := blk_frozen HRm.out 2
                simp only [List.getElem?_toArray, List.getElem?_cons_succ, List.getElem?_cons_zero] at rc0 rc1 rc2
                have pc0 := blk_cell HPm.out 0
                have pc1 := blk_cell HPm.out 1
                have pc2 := blk_cell HPm.out 2
                simp only [List.getElem?_toArray, List.getElem?_cons_succ, List.getElem?_cons_zero] at pc0 pc1 pc2
                go_wp2_with fail
                refine bodyPost_ret (results_ct rfl _ _ w.heap.size 46 #[.string v1, .int .i64 o4, .string v6] (0, 0) _ rfl (blk_put (blk_put (blk_put HRm.out 0 _ rfl) 1 _ rfl) 2 _ rfl) Tryd.underlying46 rfl rfl) rfl ⟨by rw [Ho4.out]; rfl, (((HIm.out.far (Nat.ne_of_lt Hlt.out) _).far (Nat.ne_of_lt Hlt.out) _).far (Nat.ne_of_lt Hlt.out) _), below_setN (below_setN (below_setN HBm.out Hbw.out) Hbw.out) Hbw.out, keep_far (keep_far (keep_far HKm.out (Nat.le_refl _) _) (Nat.le_refl _) _) (Nat.le_refl _) _⟩
end Go.Proofs.YtmocooihkobdjaaDoor.G
end
