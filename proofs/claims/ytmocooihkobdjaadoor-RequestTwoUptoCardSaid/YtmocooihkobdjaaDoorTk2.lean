/- A part of the proof: the texts of this claim, packed by a program of this session (wip/pack.py). -/
import Derived.Test.YtmocooihkobdjaaDoorTk1
section
namespace Go.Proofs.YtmocooihkobdjaaDoor.T
open Go.RowKit Go.Proofs.YtmocooihkobdjaaDoorW.PrintWords Go.Proofs.YtmocooihkobdjaaDoorW.PrintLast Go.Proofs.YtmocooihkobdjaaDoorW.PrintMore
attribute [local go_sem] max2_int min2_int max_two min_two max_three min_three max_four min_four
set_option linter.unusedVariables false
set_option linter.unusedSimpArgs false
def depotref00_SameRequest.f (k : Nat) (l0_0 : List (List (S46))) (l0_1 : List (S46)) (l0_2 : List (S48)) (l1_0 : List (List (S46))) (l1_1 : List (S46)) (l1_2 : List (S48)) : Option (Bool) := (depotref00_SameLists.f k l0_0 l1_0).bind fun t138 => (if t138 = true then ((depotref00_SameRels.f k l0_1 l1_1).bind fun t139 => (if t139 = true then ((depotref00_SameWishes.f k l0_2 l1_2).bind fun t140 => (some t140)) else (some false))) else (some false))
theorem depotref00_SameRequest.mono : ∀ a0 a1 a2 a3 a4 a5 k, LeO (depotref00_SameRequest.f k a0 a1 a2 a3 a4 a5) (depotref00_SameRequest.f (k + 1) a0 a1 a2 a3 a4 a5) := by
 intro a0 a1 a2 a3 a4 a5 k
 unfold depotref00_SameRequest.f
 repeat' first
   | (with_reducible exact depotref00_SameLists.mono _ _ _)
   | (with_reducible exact depotref00_SameRels.mono _ _ _)
   | (with_reducible exact depotref00_SameWishes.mono _ _ _)
   | (with_reducible exact LeO.refl _)
   | (with_reducible exact LeO.none _)
   | (with_reducible refine LeO.ite ?_ ?_)
   | (with_reducible refine LeO.bind ?_ (fun _ => ?_))
   | exact depotref00_SameLists.mono _ _ _
   | exact depotref00_SameRels.mono _ _ _
   | exact depotref00_SameWishes.mono _ _ _
   | exact LeO.none _
   | refine LeO.ite ?_ ?_
   | refine LeO.bind ?_ (fun _ => ?_)
set_option maxHeartbeats 8000000 in
set_option maxRecDepth 100000 in
theorem depotref00_SameRequest.calls (k : Nat) (A0_0 : Option Addr) (c0_0 : Nat) (l0_0 : List (List (S46))) (A0_1 : Option Addr) (c0_1 : Nat) (l0_1 : List (S46)) (A0_2 : Option Addr) (c0_2 : Nat) (l0_2 : List (S48)) (A1_0 : Option Addr) (c1_0 : Nat) (l1_0 : List (List (S46))) (A1_1 : Option Addr) (c1_1 : Nat) (l1_1 : List (S46)) (A1_2 : Option Addr) (c1_2 : Nat) (l1_2 : List (S48)) (r : Bool) (w : World) (hr0_0 : Kd.C (Kd.slice 46 k46) w A0_0 l0_0.length l0_0) (hc0_0 : l0_0.length ≤ c0_0) (hr0_1 : Kd.C k46 w A0_1 l0_1.length l0_1) (hc0_1 : l0_1.length ≤ c0_1) (hr0_2 : Kd.C k48 w A0_2 l0_2.length l0_2) (hc0_2 : l0_2.length ≤ c0_2) (hr1_0 : Kd.C (Kd.slice 46 k46) w A1_0 l1_0.length l1_0) (hc1_0 : l1_0.length ≤ c1_0) (hr1_1 : Kd.C k46 w A1_1 l1_1.length l1_1) (hc1_1 : l1_1.length ≤ c1_1) (hr1_2 : Kd.C k48 w A1_2 l1_2.length l1_2) (hc1_2 : l1_2.length ≤ c1_2) (h : depotref00_SameRequest.f k l0_0 l0_1 l0_2 l1_0 l1_1 l1_2 = some r) :
  Calls Tryd.prog 16 #[.agg #[.slice A0_0 l0_0.length c0_0, .slice A0_1 l0_1.length c0_1, .slice A0_2 l0_2.length c0_2], .agg #[.slice A1_0 l1_0.length c1_0, .slice A1_1 l1_1.length c1_1, .slice A1_2 l1_2.length c1_2]] w fun e w' => e = .returned (.bool r) ∧ Below w.heap.size w w' := by
 have hu26 := Tryd.underlying26
 have HR0_0 := Aside0.mk hr0_0
 have HC0_0 := Aside0.mk hc0_0
 clear hr0_0 hc0_0
 have HR0_1 := Aside0.mk hr0_1
 have HC0_1 := Aside0.mk hc0_1
 clear hr0_1 hc0_1
 have HR0_2 := Aside0.mk hr0_2
 have HC0_2 := Aside0.mk hc0_2
 clear hr0_2 hc0_2
 have HR1_0 := Aside0.mk hr1_0
 have HC1_0 := Aside0.mk hc1_0
 clear hr1_0 hc1_0
 have HR1_1 := Aside0.mk hr1_1
 have HC1_1 := Aside0.mk hc1_1
 clear hr1_1 hc1_1
 have HR1_2 := Aside0.mk hr1_2
 have HC1_2 := Aside0.mk hc1_2
 clear hr1_2 hc1_2
 have HB := Aside0.mk (Below.refl w.heap.size w)
 have H : ((depotref00_SameLists.f k l0_0 l1_0).bind fun t138 => (if t138 = true then ((depotref00_SameRels.f k l0_1 l1_1).bind fun t139 => (if t139 = true then ((depotref00_SameWishes.f k l0_2 l1_2).bind fun t140 => (some t140)) else (some false))) else (some false))) = some r := h
 clear h
 replace H := Option.bind_eq_some_iff.mp H
 obtain ⟨t138, A30, H⟩ := H
 replace H : (if t138 = true then ((depotref00_SameRels.f k l0_1 l1_1).bind fun t139 => (if t139 = true then ((depotref00_SameWishes.f k l0_2 l1_2).bind fun t140 => (some t140)) else (some false))) else (some false)) = some r := H
 have A3 := Aside0.mk A30
 clear A30
 by_cases c4 : t138 = true
 ·subst c4
  have H1 : ((depotref00_SameRels.f k l0_1 l1_1).bind fun t139 => (if t139 = true then ((depotref00_SameWishes.f k l0_2 l1_2).bind fun t140 => (some t140)) else (some false))) = some r := by rw [if_pos rfl] at H; exact H
  clear H
  have H := H1
  clear H1
  replace H := Option.bind_eq_some_iff.mp H
  obtain ⟨t139, A50, H⟩ := H
  replace H : (if t139 = true then ((depotref00_SameWishes.f k l0_2 l1_2).bind fun t140 => (some t140)) else (some false)) = some r := H
  have A5 := Aside0.mk A50
  clear A50
  by_cases c6 : t139 = true
  ·subst c6
   have H1 : ((depotref00_SameWishes.f k l0_2 l1_2).bind fun t140 => (some t140)) = some r := by rw [if_pos rfl] at H; exact H
   clear H
   have H := H1
   clear H1
   replace H := Option.bind_eq_some_iff.mp H
   obtain ⟨t140, A70, H⟩ := H
   replace H : (some t140) = some r := H
   have A7 := Aside0.mk A70
   clear A70
   obtain rfl := Option.some.inj H
   go_enter Tryd.func16, Tryd.ntmps16
   go_wp2_with (first | ((with_reducible refine gate_dst (N := 2) rfl ?_); refine box_event ?hg (N := 2) ?hd (cs := #[.slice A0_0 l0_0.length c0_0, .slice A0_1 l0_1.length c0_1, .slice A0_2 l0_2.length c0_2]) (t := 26) ?hr ?_; (case hd => rfl); (case hg => rfl); (case hr => first | (go_simp; done) | (go_simp; rfl)); intro gb136 hg w8 hbox hb; have n0_ := Aside0.mk (below_step (W0 HB.out) hb); have n1_ := Aside0.mk (hbox); have n2_ := Aside0.mk ((by rw [hg]; exact (below_size (W0 HB.out)) : w.heap.size ≤ gb136)); have n3_ := Aside0.mk ((by rw [hg]; exact (below_size (W0 HB.out)) : w.heap.size ≤ gb136)); clear HB; have HB := n0_; have BK136 := n1_; have GW136 := n2_; have GE136 := n3_; clear n0_ n1_ n2_ n3_; clear hb hbox hg) | ((with_reducible refine gate_dst (N := 3) rfl ?_); refine box_event ?hg (N := 3) ?hd (cs := #[.slice A1_0 l1_0.length c1_0, .slice A1_1 l1_1.length c1_1, .slice A1_2 l1_2.length c1_2]) (t := 26) ?hr ?_; (case hd => rfl); (case hg => rfl); (case hr => first | (go_simp; done) | (go_simp; rfl)); intro gb137 hg w9 hbox hb; have n0_ := Aside0.mk (blk_below (g := gb136) (Bq BK136.out) hb); have n1_ := Aside0.mk (below_step (W1 HB.out GE136.out) hb); have n2_ := Aside0.mk (hbox); have n3_ := Aside0.mk ((by rw [hg]; exact (below_size (W1 HB.out GE136.out)) : w.heap.size ≤ gb137)); have n4_ := Aside0.mk ((by rw [hg]; exact (below_size (W1 HB.out GE136.out)) : w.heap.size ≤ gb137)); have n5_ := Aside0.mk ((by rw [hg]; exact Nat.ne_of_lt (blk_lt (g := gb136) (Bq BK136.out)) : gb136 ≠ gb137)); have n6_ := Aside0.mk ((by rw [hg]; exact Nat.ne_of_gt (blk_lt (g := gb136) (Bq BK136.out)) : gb137 ≠ gb136)); clear BK136; clear HB; have BK136 := n0_; have HB := n1_; have BK137 := n2_; have GW137 := n3_; have GE137 := n4_; have NB136_137 := n5_; have NB137_136 := n6_; clear n0_ n1_ n2_ n3_ n4_ n5_ n6_; clear hb hbox hg; have hnb10 := NB136_137.out; have hnc10 := NB137_136.out; have hcz11_0 : w9.cell? ⟨gb136, 0, none⟩ = some (.slice A0_0 l0_0.length c0_0) := (blk_cell BK136.out 0).trans rfl; have hcz11_1 : w9.cell? ⟨gb136, 1, none⟩ = some (.slice A0_1 l0_1.length c0_1) := (blk_cell BK136.out 1).trans rfl; have hcz11_2 : w9.cell? ⟨gb136, 2, none⟩ = some (.slice A0_2 l0_2.length c0_2) := (blk_cell BK136.out 2).trans rfl; have hfz11_0 := blk_frozen BK136.out 0; have hfz11_1 := blk_frozen BK136.out 1; have hfz11_2 := blk_frozen BK136.out 2; have hcz12_0 : w9.cell? ⟨gb137, 0, none⟩ = some (.slice A1_0 l1_0.length c1_0) := (blk_cell BK137.out 0).trans rfl; have hcz12_1 : w9.cell? ⟨gb137, 1, none⟩ = some (.slice A1_1 l1_1.length c1_1) := (blk_cell BK137.out 1).trans rfl; have hcz12_2 : w9.cell? ⟨gb137, 2, none⟩ = some (.slice A1_2 l1_2.length c1_2) := (blk_cell BK137.out 2).trans rfl; have hfz12_0 := blk_frozen BK137.out 0; have hfz12_1 := blk_frozen BK137.out 1; have hfz12_2 := blk_frozen BK137.out 2) | ((with_reducible refine gate_callee (f := 31) rfl ?_); refine goesL_ (some 9) rfl rfl Tryd.func31 (by kernel_rfl) rfl #[.slice A0_0 l0_0.length c0_0, .slice A1_0 l1_0.length c1_0] rfl (by (try simp only [List.map_toArray, List.map_cons, List.map_nil]); first | done | rfl | (simp only [List.length_drop, List.length_take]; rfl) | (simp; done)) ?_; (with_reducible refine (depotref00_SameLists.calls k _ _ l0_0 _ _ l1_0 true _ ?side1 ?side2 ?side3 ?side4 A3.out).mono ?_); (case side1 => exact Cq HR0_0.out HB.out); (case side2 => exact HC0_0.out); (case side3 => exact Cq HR1_0.out HB.out); (case side4 => exact HC1_0.out); rintro e w' ⟨rfl, ⟨nd, rfl⟩⟩; refine ⟨_, rfl, ?_⟩) | (go_at_call 32; (with_reducible refine (depotref00_SameRels.calls k _ _ l0_1 _ _ l1_1 true _ ?side1 ?side2 ?side3 ?side4 A5.out).mono ?_); (case side1 => repeat (first | exact (Kd.C_below HR0_1.out (W2 HB.out GE136.out GE137.out)) | (with_reducible refine Kd.C_alloc ?_ _) | (with_reducible refine Kd.C_drewN ?_ _) | (with_reducible refine Kd.C_drew ?_))); (case side2 => exact HC0_1.out); (case side3 => repeat (first | exact (Kd.C_below HR1_1.out (W2 HB.out GE136.out GE137.out)) | (with_reducible refine Kd.C_alloc ?_ _) | (with_reducible refine Kd.C_drewN ?_ _) | (with_reducible refine Kd.C_drew ?_))); (case side4 => exact HC1_1.out); rintro e w' ⟨rfl, ⟨nd, rfl⟩⟩) | (go_at_call 33; (with_reducible refine (depotref00_SameWishes.calls k _ _ l0_2 _ _ l1_2 t140 _ ?side1 ?side2 ?side3 ?side4 A7.out).mono ?_); (case side1 => repeat (first | exact (Kd.C_below HR0_2.out (W2 HB.out GE136.out GE137.out)) | (with_reducible refine Kd.C_alloc ?_ _) | (with_reducible refine Kd.C_drewN ?_ _) | (with_reducible refine Kd.C_drew ?_))); (case side2 => exact HC0_2.out); (case side3 => repeat (first | exact (Kd.C_below HR1_2.out (W2 HB.out GE136.out GE137.out)) | (with_reducible refine Kd.C_alloc ?_ _) | (with_reducible refine Kd.C_drewN ?_ _) | (with_reducible refine Kd.C_drew ?_))); (case side4 => exact HC1_2.out); rintro e w' ⟨rfl, ⟨nd, rfl⟩⟩))
   go_ret
   exact ⟨by first | rfl | (simp [errW_none, errW_some] <;> rfl) | (simp [*, errW_none, errW_some] <;> rfl) | (simp [errW_none, errW_some, Go.Proofs.YtmocooihkobdjaaDoor.listNe]; done), by repeat (first | (with_reducible first | exact HB.out | apply below_alloc | apply pw_below_drewN | apply below_drew1 | refine below_set ?_ GE136.out | refine below_set ?_ GE137.out) | exact HB.out)⟩
  ·replace c6 := Bool.eq_false_iff.mpr c6
   subst c6
   have H1 : (some false) = some r := by rw [if_neg (show ¬ (false = true) by decide)] at H; exact H
   clear H
   have H := H1
   clear H1
   obtain rfl := Option.some.inj H
   go_enter Tryd.func16, Tryd.ntmps16
   go_wp2_with (first | ((with_reducible refine gate_dst (N := 2) rfl ?_); refine box_event ?hg (N := 2) ?hd (cs := #[.slice A0_0 l0_0.length c0_0, .slice A0_1 l0_1.length c0_1, .slice A0_2 l0_2.length c0_2]) (t := 26) ?hr ?_; (case hd => rfl); (case hg => rfl); (case hr => first | (go_simp; done) | (go_simp; rfl)); intro gb136 hg w13 hbox hb; have n0_ := Aside0.mk (below_step (W0 HB.out) hb); have n1_ := Aside0.mk (hbox); have n2_ := Aside0.mk ((by rw [hg]; exact (below_size (W0 HB.out)) : w.heap.size ≤ gb136)); have n3_ := Aside0.mk ((by rw [hg]; exact (below_size (W0 HB.out)) : w.heap.size ≤ gb136)); clear HB; have HB := n0_; have BK136 := n1_; have GW136 := n2_; have GE136 := n3_; clear n0_ n1_ n2_ n3_; clear hb hbox hg) | ((with_reducible refine gate_dst (N := 3) rfl ?_); refine box_event ?hg (N := 3) ?hd (cs := #[.slice A1_0 l1_0.length c1_0, .slice A1_1 l1_1.length c1_1, .slice A1_2 l1_2.length c1_2]) (t := 26) ?hr ?_; (case hd => rfl); (case hg => rfl); (case hr => first | (go_simp; done) | (go_simp; rfl)); intro gb137 hg w14 hbox hb; have n0_ := Aside0.mk (blk_below (g := gb136) (Bq BK136.out) hb); have n1_ := Aside0.mk (below_step (W1 HB.out GE136.out) hb); have n2_ := Aside0.mk (hbox); have n3_ := Aside0.mk ((by rw [hg]; exact (below_size (W1 HB.out GE136.out)) : w.heap.size ≤ gb137)); have n4_ := Aside0.mk ((by rw [hg]; exact (below_size (W1 HB.out GE136.out)) : w.heap.size ≤ gb137)); have n5_ := Aside0.mk ((by rw [hg]; exact Nat.ne_of_lt (blk_lt (g := gb136) (Bq BK136.out)) : gb136 ≠ gb137)); have n6_ := Aside0.mk ((by rw [hg]; exact Nat.ne_of_gt (blk_lt (g := gb136) (Bq BK136.out)) : gb137 ≠ gb136)); clear BK136; clear HB; have BK136 := n0_; have HB := n1_; have BK137 := n2_; have GW137 := n3_; have GE137 := n4_; have NB136_137 := n5_; have NB137_136 := n6_; clear n0_ n1_ n2_ n3_ n4_ n5_ n6_; clear hb hbox hg; have hnb15 := NB136_137.out; have hnc15 := NB137_136.out; have hcz16_0 : w14.cell? ⟨gb136, 0, none⟩ = some (.slice A0_0 l0_0.length c0_0) := (blk_cell BK136.out 0).trans rfl; have hcz16_1 : w14.cell? ⟨gb136, 1, none⟩ = some (.slice A0_1 l0_1.length c0_1) := (blk_cell BK136.out 1).trans rfl; have hcz16_2 : w14.cell? ⟨gb136, 2, none⟩ = some (.slice A0_2 l0_2.length c0_2) := (blk_cell BK136.out 2).trans rfl; have hfz16_0 := blk_frozen BK136.out 0; have hfz16_1 := blk_frozen BK136.out 1; have hfz16_2 := blk_frozen BK136.out 2; have hcz17_0 : w14.cell? ⟨gb137, 0, none⟩ = some (.slice A1_0 l1_0.length c1_0) := (blk_cell BK137.out 0).trans rfl; have hcz17_1 : w14.cell? ⟨gb137, 1, none⟩ = some (.slice A1_1 l1_1.length c1_1) := (blk_cell BK137.out 1).trans rfl; have hcz17_2 : w14.cell? ⟨gb137, 2, none⟩ = some (.slice A1_2 l1_2.length c1_2) := (blk_cell BK137.out 2).trans rfl; have hfz17_0 := blk_frozen BK137.out 0; have hfz17_1 := blk_frozen BK137.out 1; have hfz17_2 := blk_frozen BK137.out 2) | ((with_reducible refine gate_callee (f := 31) rfl ?_); refine goesL_ (some 9) rfl rfl Tryd.func31 (by kernel_rfl) rfl #[.slice A0_0 l0_0.length c0_0, .slice A1_0 l1_0.length c1_0] rfl (by (try simp only [List.map_toArray, List.map_cons, List.map_nil]); first | done | rfl | (simp only [List.length_drop, List.length_take]; rfl) | (simp; done)) ?_; (with_reducible refine (depotref00_SameLists.calls k _ _ l0_0 _ _ l1_0 true _ ?side1 ?side2 ?side3 ?side4 A3.out).mono ?_); (case side1 => exact Cq HR0_0.out HB.out); (case side2 => exact HC0_0.out); (case side3 => exact Cq HR1_0.out HB.out); (case side4 => exact HC1_0.out); rintro e w' ⟨rfl, ⟨nd, rfl⟩⟩; refine ⟨_, rfl, ?_⟩) | (go_at_call 32; (with_reducible refine (depotref00_SameRels.calls k _ _ l0_1 _ _ l1_1 false _ ?side1 ?side2 ?side3 ?side4 A5.out).mono ?_); (case side1 => repeat (first | exact (Kd.C_below HR0_1.out (W2 HB.out GE136.out GE137.out)) | (with_reducible refine Kd.C_alloc ?_ _) | (with_reducible refine Kd.C_drewN ?_ _) | (with_reducible refine Kd.C_drew ?_))); (case side2 => exact HC0_1.out); (case side3 => repeat (first | exact (Kd.C_below HR1_1.out (W2 HB.out GE136.out GE137.out)) | (with_reducible refine Kd.C_alloc ?_ _) | (with_reducible refine Kd.C_drewN ?_ _) | (with_reducible refine Kd.C_drew ?_))); (case side4 => exact HC1_1.out); rintro e w' ⟨rfl, ⟨nd, rfl⟩⟩))
   go_ret
   exact ⟨by first | rfl | (simp [errW_none, errW_some] <;> rfl) | (simp [*, errW_none, errW_some] <;> rfl) | (simp [errW_none, errW_some, Go.Proofs.YtmocooihkobdjaaDoor.listNe]; done), by repeat (first | (with_reducible first | exact HB.out | apply below_alloc | apply pw_below_drewN | apply below_drew1 | refine below_set ?_ GE136.out | refine below_set ?_ GE137.out) | exact HB.out)⟩
 ·replace c4 := Bool.eq_false_iff.mpr c4
  subst c4
  have H1 : (some false) = some r := by rw [if_neg (show ¬ (false = true) by decide)] at H; exact H
  clear H
  have H := H1
  clear H1
  obtain rfl := Option.some.inj H
  go_enter Tryd.func16, Tryd.ntmps16
  go_wp2_with (first | ((with_reducible refine gate_dst (N := 2) rfl ?_); refine box_event ?hg (N := 2) ?hd (cs := #[.slice A0_0 l0_0.length c0_0, .slice A0_1 l0_1.length c0_1, .slice A0_2 l0_2.length c0_2]) (t := 26) ?hr ?_; (case hd => rfl); (case hg => rfl); (case hr => first | (go_simp; done) | (go_simp; rfl)); intro gb136 hg w18 hbox hb; have n0_ := Aside0.mk (below_step (W0 HB.out) hb); have n1_ := Aside0.mk (hbox); have n2_ := Aside0.mk ((by rw [hg]; exact (below_size (W0 HB.out)) : w.heap.size ≤ gb136)); have n3_ := Aside0.mk ((by rw [hg]; exact (below_size (W0 HB.out)) : w.heap.size ≤ gb136)); clear HB; have HB := n0_; have BK136 := n1_; have GW136 := n2_; have GE136 := n3_; clear n0_ n1_ n2_ n3_; clear hb hbox hg) | ((with_reducible refine gate_dst (N := 3) rfl ?_); refine box_event ?hg (N := 3) ?hd (cs := #[.slice A1_0 l1_0.length c1_0, .slice A1_1 l1_1.length c1_1, .slice A1_2 l1_2.length c1_2]) (t := 26) ?hr ?_; (case hd => rfl); (case hg => rfl); (case hr => first | (go_simp; done) | (go_simp; rfl)); intro gb137 hg w19 hbox hb; have n0_ := Aside0.mk (blk_below (g := gb136) (Bq BK136.out) hb); have n1_ := Aside0.mk (below_step (W1 HB.out GE136.out) hb); have n2_ := Aside0.mk (hbox); have n3_ := Aside0.mk ((by rw [hg]; exact (below_size (W1 HB.out GE136.out)) : w.heap.size ≤ gb137)); have n4_ := Aside0.mk ((by rw [hg]; exact (below_size (W1 HB.out GE136.out)) : w.heap.size ≤ gb137)); have n5_ := Aside0.mk ((by rw [hg]; exact Nat.ne_of_lt (blk_lt (g := gb136) (Bq BK136.out)) : gb136 ≠ gb137)); have n6_ := Aside0.mk ((by rw [hg]; exact Nat.ne_of_gt (blk_lt (g := gb136) (Bq BK136.out)) : gb137 ≠ gb136)); clear BK136; clear HB; have BK136 := n0_; have HB := n1_; have BK137 := n2_; have GW137 := n3_; have GE137 := n4_; have NB136_137 := n5_; have NB137_136 := n6_; clear n0_ n1_ n2_ n3_ n4_ n5_ n6_; clear hb hbox hg; have hnb20 := NB136_137.out; have hnc20 := NB137_136.out; have hcz21_0 : w19.cell? ⟨gb136, 0, none⟩ = some (.slice A0_0 l0_0.length c0_0) := (blk_cell BK136.out 0).trans rfl; have hcz21_1 : w19.cell? ⟨gb136, 1, none⟩ = some (.slice A0_1 l0_1.length c0_1) := (blk_cell BK136.out 1).trans rfl; have hcz21_2 : w19.cell? ⟨gb136, 2, none⟩ = some (.slice A0_2 l0_2.length c0_2) := (blk_cell BK136.out 2).trans rfl; have hfz21_0 := blk_frozen BK136.out 0; have hfz21_1 := blk_frozen BK136.out 1; have hfz21_2 := blk_frozen BK136.out 2; have hcz22_0 : w19.cell? ⟨gb137, 0, none⟩ = some (.slice A1_0 l1_0.length c1_0) := (blk_cell BK137.out 0).trans rfl; have hcz22_1 : w19.cell? ⟨gb137, 1, none⟩ = some (.slice A1_1 l1_1.length c1_1) := (blk_cell BK137.out 1).trans rfl; have hcz22_2 : w19.cell? ⟨gb137, 2, none⟩ = some (.slice A1_2 l1_2.length c1_2) := (blk_cell BK137.out 2).trans rfl; have hfz22_0 := blk_frozen BK137.out 0; have hfz22_1 := blk_frozen BK137.out 1; have hfz22_2 := blk_frozen BK137.out 2) | ((with_reducible refine gate_callee (f := 31) rfl ?_); refine goesL_ (some 9) rfl rfl Tryd.func31 (by kernel_rfl) rfl #[.slice A0_0 l0_0.length c0_0, .slice A1_0 l1_0.length c1_0] rfl (by (try simp only [List.map_toArray, List.map_cons, List.map_nil]); first | done | rfl | (simp only [List.length_drop, List.length_take]; rfl) | (simp; done)) ?_; (with_reducible refine (depotref00_SameLists.calls k _ _ l0_0 _ _ l1_0 false _ ?side1 ?side2 ?side3 ?side4 A3.out).mono ?_); (case side1 => exact Cq HR0_0.out HB.out); (case side2 => exact HC0_0.out); (case side3 => exact Cq HR1_0.out HB.out); (case side4 => exact HC1_0.out); rintro e w' ⟨rfl, ⟨nd, rfl⟩⟩; refine ⟨_, rfl, ?_⟩))
  go_ret
  exact ⟨by first | rfl | (simp [errW_none, errW_some] <;> rfl) | (simp [*, errW_none, errW_some] <;> rfl) | (simp [errW_none, errW_some, Go.Proofs.YtmocooihkobdjaaDoor.listNe]; done), by repeat (first | (with_reducible first | exact HB.out | apply below_alloc | apply pw_below_drewN | apply below_drew1 | refine below_set ?_ GE136.out | refine below_set ?_ GE137.out) | exact HB.out)⟩
end Go.Proofs.YtmocooihkobdjaaDoor.T
end
section
namespace Go.Proofs.YtmocooihkobdjaaDoor.T
open Go.RowKit Go.Proofs.YtmocooihkobdjaaDoorW.PrintWords Go.Proofs.YtmocooihkobdjaaDoorW.PrintLast Go.Proofs.YtmocooihkobdjaaDoorW.PrintMore
attribute [local go_sem] max2_int min2_int max_two min_two max_three min_three max_four min_four
set_option linter.unusedVariables false
set_option linter.unusedSimpArgs false
mutual
def relation_kind.j0 : Nat → Int → Bool → Option (Int)
 | 0, _, _ => none
 | k + 1, x3, x4 => if x4 = true then (some 1) else (if x3 = 44 then (relation_kind.j1 k x3 (x3 == 44)) else (if x3 = 124 then (relation_kind.j1 k x3 (x3 == 124)) else (if x3 = 40 then (relation_kind.j1 k x3 (x3 == 40)) else (relation_kind.j1 k x3 (x3 == 41)))))
def relation_kind.j1 : Nat → Int → Bool → Option (Int)
 | 0, _, _ => none
 | k + 1, x3, x8 => if x8 = true then (some 2) else (if x3 = 60 then (some 3) else (if x3 = 61 then (some 3) else (if x3 = 62 then (some 3) else (some 0))))
end
def relation_kind.f (k : Nat) (a0 : Int) : Option (Int) := if a0 = 32 then (relation_kind.j0 k a0 (a0 == 32)) else (if a0 = 9 then (relation_kind.j0 k a0 (a0 == 9)) else (relation_kind.j0 k a0 (a0 == 10)))
theorem relation_kind.mono_l : ∀ k, (∀ y0 y1, LeO (relation_kind.j0 k y0 y1) (relation_kind.j0 (k + 1) y0 y1)) ∧ (∀ y0 y1, LeO (relation_kind.j1 k y0 y1) (relation_kind.j1 (k + 1) y0 y1))
 | 0 => ⟨fun _ _ r h => by simp [relation_kind.j0] at h, fun _ _ r h => by simp [relation_kind.j1] at h⟩
 | k + 1 => by
  obtain ⟨ih0, ih1⟩ := relation_kind.mono_l k
  refine ⟨?_, ?_⟩
  ·intro y0 y1
   unfold relation_kind.j0
   repeat' first
   | (with_reducible exact ih0 _ _)
   | (with_reducible exact ih1 _ _)
   | (with_reducible exact LeO.refl _)
   | (with_reducible exact LeO.none _)
   | (with_reducible refine LeO.ite ?_ ?_)
   | (with_reducible refine LeO.bind ?_ (fun _ => ?_))
   | exact ih0 _ _
   | exact ih1 _ _
   | exact LeO.none _
   | refine LeO.ite ?_ ?_
   | refine LeO.bind ?_ (fun _ => ?_)
  ·intro y0 y1
   unfold relation_kind.j1
   repeat' first
   | (with_reducible exact ih0 _ _)
   | (with_reducible exact ih1 _ _)
   | (with_reducible exact LeO.refl _)
   | (with_reducible exact LeO.none _)
   | (with_reducible refine LeO.ite ?_ ?_)
   | (with_reducible refine LeO.bind ?_ (fun _ => ?_))
   | exact ih0 _ _
   | exact ih1 _ _
   | exact LeO.none _
   | refine LeO.ite ?_ ?_
   | refine LeO.bind ?_ (fun _ => ?_)
theorem relation_kind.mono : ∀ a0 k, LeO (relation_kind.f k a0) (relation_kind.f (k + 1) a0) := by
 intro a0 k
 obtain ⟨ih0, ih1⟩ := relation_kind.mono_l k
 unfold relation_kind.f
 repeat' first
   | (with_reducible exact ih0 _ _)
   | (with_reducible exact ih1 _ _)
   | (with_reducible exact LeO.refl _)
   | (with_reducible exact LeO.none _)
   | (with_reducible refine LeO.ite ?_ ?_)
   | (with_reducible refine LeO.bind ?_ (fun _ => ?_))
   | exact ih0 _ _
   | exact ih1 _ _
   | exact LeO.none _
   | refine LeO.ite ?_ ?_
   | refine LeO.bind ?_ (fun _ => ?_)
set_option maxHeartbeats 8000000 in
set_option maxRecDepth 100000 in
theorem relation_kind.calls (k : Nat) (a0 : Int) (r : Int) (w : World) (h : relation_kind.f k a0 = some r) :
  Calls Tryd.prog 119 #[.int .u8 a0] w fun e w' => e = .returned (.int .i64 r) ∧ Drawn0 w w' := by
 have H : (if a0 = 32 then (relation_kind.j0 k a0 (a0 == 32)) else (if a0 = 9 then (relation_kind.j0 k a0 (a0 == 9)) else (relation_kind.j0 k a0 (a0 == 10)))) = some r := h
 clear h
 have HC2 := Aside0.mk H
 clear H
 go_enter Tryd.func119, Tryd.ntmps119
 go_upto_if 4 with (fail)
 go_cut [4] (fun v4 wc => ∃ (kq : Nat) (x4_1 : Bool), v4 = .bool x4_1 ∧ Aside0 (relation_kind.j0 kq a0 x4_1 = some r) ∧ Aside0 (kq ≤ k) ∧ Drawn0 w wc)
 case first =>
  have H := HC2.out
  clear HC2
  by_cases c3 : a0 = 32
  ·rw [if_pos c3] at H
   have c3b0 : (a0 == 32) = true := beq_iff_eq.mpr c3
   have c3b1 : (a0 != 32) = false := bne_eq_false_iff_eq.mpr c3
   clear c3
   (first | rw [c3b0] | (simp only [i64_w, i32_w]; rw [c3b0]) | skip)
   have H' := Aside0.mk H
   clear H
   go_wp2
   go_meet
   case rel => exact ⟨_, ((a0 == 32)), (by first | rfl | (simp; done) | (simp [*]; done)), H', ⟨by first | omega | exact Nat.le_refl _⟩, by repeat (first | exact Drawn0.refl _ | apply Drawn0.step)⟩
  ·rw [if_neg c3] at H
   have c3b0 : (a0 == 32) = false := beq_eq_false_iff_ne.mpr c3
   have c3b1 : (a0 != 32) = true := bne_iff_ne.mpr c3
   (first | rw [c3b0] | (simp only [i64_w, i32_w]; rw [c3b0]) | skip)
   by_cases c4 : a0 = 9
   ·rw [if_pos c4] at H
    have c4b0 : (a0 == 9) = true := beq_iff_eq.mpr c4
    have c4b1 : (a0 != 9) = false := bne_eq_false_iff_eq.mpr c4
    clear c4
    have H' := Aside0.mk H
    clear H
    go_wp2
    go_meet
    case rel => exact ⟨_, ((a0 == 9)), (by first | rfl | (simp; done) | (simp [*]; done)), H', ⟨by first | omega | exact Nat.le_refl _⟩, by repeat (first | exact Drawn0.refl _ | apply Drawn0.step)⟩
   ·rw [if_neg c4] at H
    have c4b0 : (a0 == 9) = false := beq_eq_false_iff_ne.mpr c4
    have c4b1 : (a0 != 9) = true := bne_iff_ne.mpr c4
    have H' := Aside0.mk H
    clear H
    go_wp2
    go_meet
    case rel => exact ⟨_, ((a0 == 10)), (by first | rfl | (simp; done) | (simp [*]; done)), H', ⟨by first | omega | exact Nat.le_refl _⟩, by repeat (first | exact Drawn0.refl _ | apply Drawn0.step)⟩
 case rest =>
  clear HC2
  try clear c1
  try clear p2
  try clear c3
  try clear c3b0
  try clear c3b1
  try clear c4
  try clear c4b0
  try clear c4b1
  obtain ⟨kq, x4_1, rfl, HA, HJ1, ⟨mc1, rfl⟩⟩ := hcut
  cases kq with
  | zero => exact absurd HA.out (by simp [relation_kind.j0])
  | succ kj1 =>
   have H := HA.out
   clear HA
   simp only [relation_kind.j0] at H
   by_cases c5 : x4_1 = true
   ·subst c5
    have H1 : (some 1) = some r := by rw [if_pos rfl] at H; exact H
    clear H
    have H := H1
    clear H1
    obtain rfl := Option.some.inj H
    go_wp2
    go_ret
    exact ⟨by first | rfl | (simp; done) | (simp [*]; done), by repeat (first | exact Drawn0.refl _ | apply Drawn0.step)⟩
   ·replace c5 := Bool.eq_false_iff.mpr c5
    subst c5
    have H1 : (if a0 = 44 then (relation_kind.j1 kj1 a0 (a0 == 44)) else (if a0 = 124 then (relation_kind.j1 kj1 a0 (a0 == 124)) else (if a0 = 40 then (relation_kind.j1 kj1 a0 (a0 == 40)) else (relation_kind.j1 kj1 a0 (a0 == 41))))) = some r := by rw [if_neg (show ¬ (false = true) by decide)] at H; exact H
    clear H
    have H := H1
    clear H1
    have HC6 := Aside0.mk H
    clear H
    go_upto_if 8 with (fail)
    go_cut [8] (fun v8 wc => ∃ (kq : Nat) (x8_5 : Bool), v8 = .bool x8_5 ∧ Aside0 (relation_kind.j1 kq a0 x8_5 = some r) ∧ Aside0 (kq ≤ kj1) ∧ Drawn0 w wc)
    case first =>
     have H := HC6.out
     clear HC6
     by_cases c7 : a0 = 44
     ·rw [if_pos c7] at H
      have c7b0 : (a0 == 44) = true := beq_iff_eq.mpr c7
      have c7b1 : (a0 != 44) = false := bne_eq_false_iff_eq.mpr c7
      clear c7
      (first | rw [c7b0] | (simp only [i64_w, i32_w]; rw [c7b0]) | skip)
      have H' := Aside0.mk H
      clear H
      go_wp2
      go_meet
      case rel => exact ⟨_, ((a0 == 44)), (by first | rfl | (simp; done) | (simp [*]; done)), H', ⟨by have := HJ1.out; first | omega | exact Nat.le_refl _⟩, by repeat (first | exact Drawn0.refl _ | apply Drawn0.step)⟩
     ·rw [if_neg c7] at H
      have c7b0 : (a0 == 44) = false := beq_eq_false_iff_ne.mpr c7
      have c7b1 : (a0 != 44) = true := bne_iff_ne.mpr c7
      (first | rw [c7b0] | (simp only [i64_w, i32_w]; rw [c7b0]) | skip)
      by_cases c8 : a0 = 124
      ·rw [if_pos c8] at H
       have c8b0 : (a0 == 124) = true := beq_iff_eq.mpr c8
       have c8b1 : (a0 != 124) = false := bne_eq_false_iff_eq.mpr c8
       clear c8
       have H' := Aside0.mk H
       clear H
       go_wp2
       go_meet
       case rel => exact ⟨_, ((a0 == 124)), (by first | rfl | (simp; done) | (simp [*]; done)), H', ⟨by have := HJ1.out; first | omega | exact Nat.le_refl _⟩, by repeat (first | exact Drawn0.refl _ | apply Drawn0.step)⟩
      ·rw [if_neg c8] at H
       have c8b0 : (a0 == 124) = false := beq_eq_false_iff_ne.mpr c8
       have c8b1 : (a0 != 124) = true := bne_iff_ne.mpr c8
       by_cases c9 : a0 = 40
       ·rw [if_pos c9] at H
        have c9b0 : (a0 == 40) = true := beq_iff_eq.mpr c9
        have c9b1 : (a0 != 40) = false := bne_eq_false_iff_eq.mpr c9
        clear c9
        have H' := Aside0.mk H
        clear H
        go_wp2
        go_meet
        case rel => exact ⟨_, ((a0 == 40)), (by first | rfl | (simp; done) | (simp [*]; done)), H', ⟨by have := HJ1.out; first | omega | exact Nat.le_refl _⟩, by repeat (first | exact Drawn0.refl _ | apply Drawn0.step)⟩
       ·rw [if_neg c9] at H
        have c9b0 : (a0 == 40) = false := beq_eq_false_iff_ne.mpr c9
        have c9b1 : (a0 != 40) = true := bne_iff_ne.mpr c9
        have H' := Aside0.mk H
        clear H
        go_wp2
        go_meet
        case rel => exact ⟨_, ((a0 == 41)), (by first | rfl | (simp; done) | (simp [*]; done)), H', ⟨by have := HJ1.out; first | omega | exact Nat.le_refl _⟩, by repeat (first | exact Drawn0.refl _ | apply Drawn0.step)⟩
    case rest =>
     clear HC6
     try clear c1
     try clear p2
     try clear c3
     try clear c3b0
     try clear c3b1
     try clear c4
     try clear c4b0
     try clear c4b1
     try clear c5
     try clear c7
     try clear c7b0
     try clear c7b1
     try clear c8
     try clear c8b0
     try clear c8b1
     try clear c9
     try clear c9b0
     try clear c9b1
     try clear p2
     obtain ⟨kq, x8_5, rfl, HA, HJ5, ⟨mc5, rfl⟩⟩ := hcut
     cases kq with
     | zero => exact absurd HA.out (by simp [relation_kind.j1])
     | succ kj5 =>
      have H := HA.out
      clear HA
      simp only [relation_kind.j1] at H
      by_cases c10 : x8_5 = true
      ·subst c10
       have H1 : (some 2) = some r := by rw [if_pos rfl] at H; exact H
       clear H
       have H := H1
       clear H1
       obtain rfl := Option.some.inj H
       go_wp2
       go_ret
       exact ⟨by first | rfl | (simp; done) | (simp [*]; done), by repeat (first | exact Drawn0.refl _ | apply Drawn0.step)⟩
      ·replace c10 := Bool.eq_false_iff.mpr c10
       subst c10
       have H1 : (if a0 = 60 then (some 3) else (if a0 = 61 then (some 3) else (if a0 = 62 then (some 3) else (some 0)))) = some r := by rw [if_neg (show ¬ (false = true) by decide)] at H; exact H
       clear H
       have H := H1
       clear H1
       by_cases c11 : a0 = 60
       ·rw [if_pos c11] at H
        have c11b0 : (a0 == 60) = true := beq_iff_eq.mpr c11
        have c11b1 : (a0 != 60) = false := bne_eq_false_iff_eq.mpr c11
        clear c11
        obtain rfl := Option.some.inj H
        go_wp2
        go_ret
        exact ⟨by first | rfl | (simp; done) | (simp [*]; done), by repeat (first | exact Drawn0.refl _ | apply Drawn0.step)⟩
       ·rw [if_neg c11] at H
        have c11b0 : (a0 == 60) = false := beq_eq_false_iff_ne.mpr c11
        have c11b1 : (a0 != 60) = true := bne_iff_ne.mpr c11
        by_cases c12 : a0 = 61
        ·rw [if_pos c12] at H
         have c12b0 : (a0 == 61) = true := beq_iff_eq.mpr c12
         have c12b1 : (a0 != 61) = false := bne_eq_false_iff_eq.mpr c12
         clear c12
         obtain rfl := Option.some.inj H
         go_wp2
         go_ret
         exact ⟨by first | rfl | (simp; done) | (simp [*]; done), by repeat (first | exact Drawn0.refl _ | apply Drawn0.step)⟩
        ·rw [if_neg c12] at H
         have c12b0 : (a0 == 61) = false := beq_eq_false_iff_ne.mpr c12
         have c12b1 : (a0 != 61) = true := bne_iff_ne.mpr c12
         by_cases c13 : a0 = 62
         ·rw [if_pos c13] at H
          have c13b0 : (a0 == 62) = true := beq_iff_eq.mpr c13
          have c13b1 : (a0 != 62) = false := bne_eq_false_iff_eq.mpr c13
          clear c13
          obtain rfl := Option.some.inj H
          go_wp2
          go_ret
          exact ⟨by first | rfl | (simp; done) | (simp [*]; done), by repeat (first | exact Drawn0.refl _ | apply Drawn0.step)⟩
         ·rw [if_neg c13] at H
          have c13b0 : (a0 == 62) = false := beq_eq_false_iff_ne.mpr c13
          have c13b1 : (a0 != 62) = true := bne_iff_ne.mpr c13
          obtain rfl := Option.some.inj H
          go_wp2
          go_ret
          exact ⟨by first | rfl | (simp; done) | (simp [*]; done), by repeat (first | exact Drawn0.refl _ | apply Drawn0.step)⟩
end Go.Proofs.YtmocooihkobdjaaDoor.T
end
section
namespace Go.Proofs.YtmocooihkobdjaaDoor.T
open Go.RowKit Go.Proofs.YtmocooihkobdjaaDoorW.PrintWords Go.Proofs.YtmocooihkobdjaaDoorW.PrintLast Go.Proofs.YtmocooihkobdjaaDoorW.PrintMore
attribute [local go_sem] max2_int min2_int max_two min_two max_three min_three max_four min_four
set_option linter.unusedVariables false
set_option linter.unusedSimpArgs false
def IsS135 (w0 W : World) (g : Nat) (f0 : ByteArray) (f1 : Int) : Prop := W.heap[g]? = some (.cells #[.string f0, .int .i64 f1] 135 (0, 0)) ∧ w0.heap.size ≤ g
theorem IsS135.grown {w0 W : World} {g : Nat} {f0 : ByteArray} {f1 : Int} {W1 : World} {row : Option Nat} (h : IsS135 w0 W g f0 f1) (hw : W.grownBy W1 row) (hne : some g ≠ row) : IsS135 w0 W1 g f0 f1 := by
 obtain ⟨hb, hg⟩ := h
 exact ⟨blk_grown hb hw hne, hg⟩
theorem IsS135.own_neN {w0 W : World} {g : Nat} {f0 : ByteArray} {f1 : Int} {α : Type} {d : Kd α} {e : Nat} {base : Nat} {ok : Nat → Prop} {v : Value} {xs : List α} (h : IsS135 w0 W g f0 f1) (ho : Kd.N d e W base ok v xs) (ht : e ≠ 135) : some g ≠ v.ownBlock := by
 obtain ⟨hb, hg⟩ := h
 exact Kd.N_ne ho hb ht
theorem IsS135.fresh {w0 W : World} {g : Nat} {f0 : ByteArray} {f1 : Int} (h : IsS135 w0 W g f0 f1) : ∀ k, W.heap.size ≤ k → k ≠ g := by
 obtain ⟨hb, hg⟩ := h
 exact Kd.freshB hb
theorem IsS135.kept {w0 W : World} {g : Nat} {f0 : ByteArray} {f1 : Int} {W1 : World} {S : Nat → Prop} (h : IsS135 w0 W g f0 f1) (hk : Kept W W1 S) (hne : ¬ S g) : IsS135 w0 W1 g f0 f1 := by
 obtain ⟨hb, hg⟩ := h
 exact ⟨blk_kept hb hk hne, hg⟩
theorem IsS135.below {w0 W : World} {g : Nat} {f0 : ByteArray} {f1 : Int} {W1 : World} (h : IsS135 w0 W g f0 f1) (hw : Below W.heap.size W W1) : IsS135 w0 W1 g f0 f1 := h.grown (grown_of_below hw none) (by simp)
theorem IsS135.alloc {w0 W : World} {g : Nat} {f0 : ByteArray} {f1 : Int} (h : IsS135 w0 W g f0 f1) (o : Obj) : IsS135 w0 (W.alloc o) g f0 f1 := h.below (below_alloc (Below.refl _ _) o)
theorem IsS135.drewN {w0 W : World} {g : Nat} {f0 : ByteArray} {f1 : Int} (h : IsS135 w0 W g f0 f1) (m : Nat) : IsS135 w0 (W.drewN m) g f0 f1 := h
theorem IsS135.drew {w0 W : World} {g : Nat} {f0 : ByteArray} {f1 : Int} (h : IsS135 w0 W g f0 f1) : IsS135 w0 W.drew g f0 f1 := h
theorem IsS135.at_ {w0 W : World} {g : Nat} {f0 : ByteArray} {f1 : Int} {w' : World} {m : Nat} (hq : W.drewN m = w') (h : IsS135 w0 W g f0 f1) : IsS135 w0 w' g f0 f1 := by subst hq; exact IsS135.drewN h m
theorem IsS135.apart {w0 W : World} {g : Nat} {f0 : ByteArray} {f1 : Int} {α : Type} {d : Kd α} {e : Nat} {base : Nat} {ok : Nat → Prop} {v : Value} {xs : List α} (h : IsS135 w0 W g f0 f1) (ho : d.R e W base ok v xs) (ht : ∀ q, q ∈ e :: d.E → q ≠ 135) : d.R e W base (fun k => ok k ∧ k ≠ g) v xs := by
 obtain ⟨hb, hg⟩ := h
 exact Kd.R_types ho hb ht
theorem IsS135.own_ne {w0 W : World} {g : Nat} {f0 : ByteArray} {f1 : Int} {α : Type} {d : Kd α} {e : Nat} {base : Nat} {ok : Nat → Prop} {v : Value} {xs : List α} (h : IsS135 w0 W g f0 f1) (ho : d.R e W base ok v xs) (ht : e ≠ 135) : some g ≠ v.ownBlock := by
 obtain ⟨hb, hg⟩ := h
 exact Kd.R_ne ho hb ht
theorem IsS135.apartQ {w0 W : World} {g : Nat} {f0 : ByteArray} {f1 : Int} {α : Type} {d : Kd α} {e : Nat} {base : Nat} {ok : Nat → Prop} {v : Value} {xs : List α} (h : IsS135 w0 W g f0 f1) (ho : d.Q e W base ok v xs) (ht : ∀ q, q ∈ e :: d.E → q ≠ 135) : d.Q e W base (fun k => ok k ∧ k ≠ g) v xs := by
 obtain ⟨hb, hg⟩ := h
 exact Kd.Q_types ho hb ht
theorem IsS135.own_neQ {w0 W : World} {g : Nat} {f0 : ByteArray} {f1 : Int} {α : Type} {d : Kd α} {e : Nat} {base : Nat} {ok : Nat → Prop} {v : Value} {xs : List α} (h : IsS135 w0 W g f0 f1) (ho : d.Q e W base ok v xs) (ht : e ≠ 135) : some g ≠ v.ownBlock := by
 obtain ⟨hb, hg⟩ := h
 exact Kd.Q_ne ho hb ht
theorem IsS135.apartS {w0 W : World} {g : Nat} {f0 : ByteArray} {f1 : Int} {α : Type} {d : Kd α} {e : Nat} {base : Nat} {ok : Nat → Prop} {v : Value} {xs : List α} (h : IsS135 w0 W g f0 f1) (ho : d.S e W base ok v xs) (ht : ∀ q, q ∈ e :: d.E → q ≠ 135) : d.S e W base (fun k => ok k ∧ k ≠ g) v xs := by
 obtain ⟨hb, hg⟩ := h
 exact Kd.S_types ho hb ht
theorem IsS135.own_neS {w0 W : World} {g : Nat} {f0 : ByteArray} {f1 : Int} {α : Type} {d : Kd α} {e : Nat} {base : Nat} {ok : Nat → Prop} {v : Value} {xs : List α} (h : IsS135 w0 W g f0 f1) (ho : d.S e W base ok v xs) (ht : e ≠ 135) : some g ≠ v.ownBlock := by
 obtain ⟨hb, hg⟩ := h
 exact Kd.S_ne ho hb ht
theorem IsS135.lt {w0 W : World} {g : Nat} {f0 : ByteArray} {f1 : Int} (h : IsS135 w0 W g f0 f1) : g < W.heap.size := by
 obtain ⟨hb, hg⟩ := h
 exact blk_lt hb
theorem IsS135.ge {w0 W : World} {g : Nat} {f0 : ByteArray} {f1 : Int} (h : IsS135 w0 W g f0 f1) : w0.heap.size ≤ g := by
 obtain ⟨hb, hg⟩ := h
 exact hg
theorem IsS135.ne_blk {w0 W : World} {g : Nat} {f0 : ByteArray} {f1 : Int} {a : Nat} {cs : Array Value} {t : TypeId} {fr : Nat × Nat} (h : IsS135 w0 W g f0 f1) (hb2 : W.heap[a]? = some (.cells cs t fr)) (ht : t ≠ 135) : g ≠ a := by
 obtain ⟨hb, hg⟩ := h
 rintro rfl
 rw [hb] at hb2
 injection hb2 with hb2
 injection hb2 with _ ht2
 exact ht ht2.symm
theorem IsS135.far {w0 W : World} {g : Nat} {f0 : ByteArray} {f1 : Int} {p : Addr} (h : IsS135 w0 W g f0 f1) (hne : g ≠ p.block) (u : Value) : IsS135 w0 (W.setCell p u) g f0 f1 := by
 obtain ⟨hb, hg⟩ := h
 exact ⟨blk_far hb hne u, hg⟩
theorem cellS135_0 {W : World} {g : Nat} {f0 : ByteArray} {f1 : Int} (h : W.heap[g]? = some (.cells #[.string f0, .int .i64 f1] 135 (0, 0))) : W.cell? ⟨g, 0, none⟩ = some (.string f0) := (blk_cell h 0).trans rfl
theorem IsS135.set_0 {w0 W : World} {g : Nat} {f0 : ByteArray} {f1 : Int} (h : IsS135 w0 W g f0 f1) (x : ByteArray) : IsS135 w0 (W.setCell ⟨g, 0, none⟩ (.string x)) g x f1 := by
 obtain ⟨hb, hg⟩ := h
 exact ⟨by simpa using blk_set hb 0 (.string x), hg⟩
theorem cellS135_1 {W : World} {g : Nat} {f0 : ByteArray} {f1 : Int} (h : W.heap[g]? = some (.cells #[.string f0, .int .i64 f1] 135 (0, 0))) : W.cell? ⟨g, 1, none⟩ = some (.int .i64 f1) := (blk_cell h 1).trans rfl
theorem IsS135.set_1 {w0 W : World} {g : Nat} {f0 : ByteArray} {f1 : Int} (h : IsS135 w0 W g f0 f1) (x : Int) : IsS135 w0 (W.setCell ⟨g, 1, none⟩ (.int .i64 x)) g f0 x := by
 obtain ⟨hb, hg⟩ := h
 exact ⟨by simpa using blk_set hb 1 (.int .i64 x), hg⟩
theorem IsS135.new (w0 W : World) (f0 : ByteArray) (f1 : Int) (hB : Below w0.heap.size w0 W) : IsS135 w0 (W.alloc (.cells #[.string f0, .int .i64 f1] 135)) W.heap.size f0 f1 := ⟨by simpa using heap_alloc_new W _, hB.size⟩
def relation_reader_gaps.l0 : Nat → ByteArray → Int → Option (ByteArray × Int)
 | 0, _, _ => none
 | k + 1, x1000, x1001 => if x1001 < (x1000.size : Int) then (if 0 ≤ x1001 then ((relation_kind.f k (bt x1000 x1001)).bind fun t141 => (if t141 = 1 then (relation_reader_gaps.l0 k x1000 (wrap64 (x1001 + 1))) else (some (x1000, x1001)))) else (none)) else (some (x1000, x1001))
def relation_reader_gaps.f (k : Nat) (s0_0 : ByteArray) (s0_1 : Int) : Option (ByteArray × Int) := relation_reader_gaps.l0 k s0_0 s0_1
theorem relation_reader_gaps.mono_l : ∀ k, (∀ y0 y1, LeO (relation_reader_gaps.l0 k y0 y1) (relation_reader_gaps.l0 (k + 1) y0 y1))
 | 0 => fun _ _ r h => by simp [relation_reader_gaps.l0] at h
 | k + 1 => by
  have ih0 := relation_reader_gaps.mono_l k
  ·intro y0 y1
   unfold relation_reader_gaps.l0
   repeat' first
   | (with_reducible exact ih0 _ _)
   | (with_reducible exact relation_kind.mono _ _)
   | (with_reducible exact LeO.refl _)
   | (with_reducible exact LeO.none _)
   | (with_reducible refine LeO.ite ?_ ?_)
   | (with_reducible refine LeO.bind ?_ (fun _ => ?_))
   | exact ih0 _ _
   | exact relation_kind.mono _ _
   | exact LeO.none _
   | refine LeO.ite ?_ ?_
   | refine LeO.bind ?_ (fun _ => ?_)
theorem relation_reader_gaps.mono : ∀ a0 a1 k, LeO (relation_reader_gaps.f k a0 a1) (relation_reader_gaps.f (k + 1) a0 a1) := by
 intro a0 a1 k
 have ih0 := relation_reader_gaps.mono_l k
 unfold relation_reader_gaps.f
 repeat' first
   | (with_reducible exact ih0 _ _)
   | (with_reducible exact relation_kind.mono _ _)
   | (with_reducible exact LeO.refl _)
   | (with_reducible exact LeO.none _)
   | (with_reducible refine LeO.ite ?_ ?_)
   | (with_reducible refine LeO.bind ?_ (fun _ => ?_))
   | exact ih0 _ _
   | exact relation_kind.mono _ _
   | exact LeO.none _
   | refine LeO.ite ?_ ?_
   | refine LeO.bind ?_ (fun _ => ?_)
set_option maxHeartbeats 8000000 in
set_option maxRecDepth 100000 in
theorem relation_reader_gaps.calls (k : Nat) (g : Nat) (s0_0 : ByteArray) (s0_1 : Int) (r1 : ByteArray) (r2 : Int) (w0 w : World) (hI : IsS135 w0 w g s0_0 s0_1) (hB : Below w0.heap.size w0 w) (h : relation_reader_gaps.f k s0_0 s0_1 = some (r1, r2)) :
  Calls Tryd.prog 107 #[.pointer (some ⟨g, 0, none⟩)] w fun e w' => e = .returned (.tuple #[]) ∧ IsS135 w0 w' g r1 r2 ∧ Below w0.heap.size w0 w' ∧ KeepBut w w' g none := by
 have HI0 := Aside0.mk hI
 have HK := Aside0.mk (KeepBut.refl w g none)
 have HL := Aside0.mk hB.size
 clear hI
 have HW0 := Aside0.mk hB.size
 have HB := Aside0.mk hB
 clear hB
 have H : (relation_reader_gaps.l0 k s0_0 s0_1) = some (r1, r2) := h
 clear h
 have H' := Aside0.mk H
 clear H
 go_enter Tryd.func107, Tryd.ntmps107
 go_wp2
 go_loopg [] k (fun kq w' => ∃ (x1001_1 : Int), Aside0 (relation_reader_gaps.l0 kq s0_0 x1001_1 = some (r1, r2)) ∧ Aside0 (kq ≤ k) ∧ Aside0 (IsS135 w0 w' g s0_0 x1001_1) ∧ Aside0 (KeepBut w w' g none) ∧ Aside0 (Below w0.heap.size w0 w'))
 case atStart => exact ⟨(s0_1), H', ⟨Nat.le_refl _⟩, ⟨by repeat (first | (with_reducible first | exact HI0.out | apply IsS135.alloc | apply IsS135.drewN | apply IsS135.drew | apply IsS135.set_0 | apply IsS135.set_1) | exact HI0.out)⟩, ⟨by repeat (first | (with_reducible first | exact HK.out | apply KeepBut.set_ | apply keep_drewN | apply keep_drew | apply keep_alloc) | exact HK.out)⟩, ⟨by repeat (first | (with_reducible first | exact HB.out | apply below_alloc | apply pw_below_drewN | apply below_drew1 | refine below_set ?_ (IsS135.ge HI0.out)) | exact HB.out)⟩⟩
 case round =>
  clear H'
  try clear c1
  obtain ⟨x1001_1, HA, HK1, HI0, HK, HB⟩ := hrel
  cases gk with
  | zero => exact absurd HA.out (by simp [relation_reader_gaps.l0])
  | succ k1 =>
   have H := HA.out
   clear HA
   simp only [relation_reader_gaps.l0] at H
   by_cases c2 : x1001_1 < (s0_0.size : Int)
   ·rw [if_pos c2] at H
    have c2b0 : decide (x1001_1 < (s0_0.size : Int)) = true := decide_eq_true c2
    clear c2
    by_cases c3 : 0 ≤ x1001_1
    ·rw [if_pos c3] at H
     have c3b0 : decide (0 ≤ x1001_1) = true := decide_eq_true c3
     clear c3
     replace H := Option.bind_eq_some_iff.mp H
     obtain ⟨t141, A50, H⟩ := H
     replace H : (if t141 = 1 then (relation_reader_gaps.l0 k1 s0_0 (wrap64 (x1001_1 + 1))) else (some (s0_0, x1001_1))) = some (r1, r2) := H
     have A5 := Aside0.mk A50
     clear A50
     by_cases c6 : t141 = 1
     ·rw [if_pos c6] at H
      have c6b0 : (t141 == 1) = true := beq_iff_eq.mpr c6
      have c6b1 : (t141 != 1) = false := bne_eq_false_iff_eq.mpr c6
      clear c6
      have H' := Aside0.mk H
      clear H
      obtain ⟨HGz7, hgz7⟩ := HI0.out
      have hcz7_0 := cellS135_0 HGz7
      have hcz7_1 := cellS135_1 HGz7
      have hfz7_0 := blk_frozen HGz7 0
      have hfz7_1 := blk_frozen HGz7 1
      clear HGz7 hgz7
      have p4 : 0 ≤ (x1001_1 : Int) := of_decide_eq_true (by first | (with_reducible assumption) | assumption)
      have q4 : x1001_1 < (s0_0.size : Int) := of_decide_eq_true (by first | (with_reducible assumption) | assumption)
      have hx4 := bt_at s0_0 x1001_1
      replace p4 := eq_true p4
      replace q4 := eq_true q4
      go_wp2_with (first | (go_at_call 119; (with_reducible refine (relation_kind.calls k1 (bt s0_0 x1001_1) t141 _ A5.out).mono ?_); rintro e w' ⟨rfl, ⟨nd, rfl⟩⟩; (try first | exact ⟨rfl, _, World.drewN_drewN _ _ _⟩ | exact ⟨rfl, _, Eq.trans (World.drewN_drewN _ _ _) (congrArg (World.drewN _) (Nat.add_assoc _ _ _))⟩)))
      repeat (go_quiet (first | (go_at_call 119; (with_reducible refine (relation_kind.calls k1 (bt s0_0 x1001_1) t141 _ A5.out).mono ?_); rintro e w' ⟨rfl, ⟨nd, rfl⟩⟩; (try first | exact ⟨rfl, _, World.drewN_drewN _ _ _⟩ | exact ⟨rfl, _, Eq.trans (World.drewN_drewN _ _ _) (congrArg (World.drewN _) (Nat.add_assoc _ _ _))⟩))); try go_wp2_with (first | (go_at_call 119; (with_reducible refine (relation_kind.calls k1 (bt s0_0 x1001_1) t141 _ A5.out).mono ?_); rintro e w' ⟨rfl, ⟨nd, rfl⟩⟩; (try first | exact ⟨rfl, _, World.drewN_drewN _ _ _⟩ | exact ⟨rfl, _, Eq.trans (World.drewN_drewN _ _ _) (congrArg (World.drewN _) (Nat.add_assoc _ _ _))⟩))))
      go_roundg k1
      case measure => have := HK1.out; omega
      case rel => exact ⟨(wrap64 (x1001_1 + 1)), H', ⟨by have := HK1.out; omega⟩, ⟨by repeat (first | (with_reducible first | exact HI0.out | apply IsS135.alloc | apply IsS135.drewN | apply IsS135.drew | apply IsS135.set_0 | apply IsS135.set_1) | exact HI0.out)⟩, ⟨by repeat (first | (with_reducible first | exact HK.out | apply KeepBut.set_ | apply keep_drewN | apply keep_drew | apply keep_alloc) | exact HK.out)⟩, ⟨by repeat (first | (with_reducible first | exact HB.out | apply below_alloc | apply pw_below_drewN | apply below_drew1 | refine below_set ?_ (IsS135.ge HI0.out)) | exact HB.out)⟩⟩
     ·rw [if_neg c6] at H
      have c6b0 : (t141 == 1) = false := beq_eq_false_iff_ne.mpr c6
      have c6b1 : (t141 != 1) = true := bne_iff_ne.mpr c6
      simp only [Option.some.injEq, Prod.mk.injEq] at H
      obtain ⟨rfl, rfl⟩ := H
      obtain ⟨HGz8, hgz8⟩ := HI0.out
      have hcz8_0 := cellS135_0 HGz8
      have hcz8_1 := cellS135_1 HGz8
      have hfz8_0 := blk_frozen HGz8 0
      have hfz8_1 := blk_frozen HGz8 1
      clear HGz8 hgz8
      have p4 : 0 ≤ (x1001_1 : Int) := of_decide_eq_true (by first | (with_reducible assumption) | assumption)
      have q4 : x1001_1 < (s0_0.size : Int) := of_decide_eq_true (by first | (with_reducible assumption) | assumption)
      have hx4 := bt_at s0_0 x1001_1
      replace p4 := eq_true p4
      replace q4 := eq_true q4
      go_wp2_with (first | (go_at_call 119; (with_reducible refine (relation_kind.calls k1 (bt s0_0 x1001_1) t141 _ A5.out).mono ?_); rintro e w' ⟨rfl, ⟨nd, rfl⟩⟩; (try first | exact ⟨rfl, _, World.drewN_drewN _ _ _⟩ | exact ⟨rfl, _, Eq.trans (World.drewN_drewN _ _ _) (congrArg (World.drewN _) (Nat.add_assoc _ _ _))⟩)))
      repeat (go_quiet (first | (go_at_call 119; (with_reducible refine (relation_kind.calls k1 (bt s0_0 x1001_1) t141 _ A5.out).mono ?_); rintro e w' ⟨rfl, ⟨nd, rfl⟩⟩; (try first | exact ⟨rfl, _, World.drewN_drewN _ _ _⟩ | exact ⟨rfl, _, Eq.trans (World.drewN_drewN _ _ _) (congrArg (World.drewN _) (Nat.add_assoc _ _ _))⟩))); try go_wp2_with (first | (go_at_call 119; (with_reducible refine (relation_kind.calls k1 (bt s0_0 x1001_1) t141 _ A5.out).mono ?_); rintro e w' ⟨rfl, ⟨nd, rfl⟩⟩; (try first | exact ⟨rfl, _, World.drewN_drewN _ _ _⟩ | exact ⟨rfl, _, Eq.trans (World.drewN_drewN _ _ _) (congrArg (World.drewN _) (Nat.add_assoc _ _ _))⟩))))
      first | go_end0 | ((try simp only [Exit.inBlock, Exit.then]); refine bodyPost_ret (results_none rfl _ _ _) rfl ?_)
      exact ⟨by first | rfl | (simp [errW_none, errW_some] <;> rfl) | (simp [*, errW_none, errW_some] <;> rfl) | (simp [errW_none, errW_some, Go.Proofs.YtmocooihkobdjaaDoor.listNe]; done), by repeat (first | (with_reducible first | exact HI0.out | apply IsS135.alloc | apply IsS135.drewN | apply IsS135.drew | apply IsS135.set_0 | apply IsS135.set_1) | exact HI0.out), by repeat (first | (with_reducible first | exact HB.out | apply below_alloc | apply pw_below_drewN | apply below_drew1 | refine below_set ?_ (IsS135.ge HI0.out)) | exact HB.out), by repeat (first | (with_reducible first | exact HK.out | apply KeepBut.set_ | apply keep_drewN | apply keep_drew | apply keep_alloc) | exact HK.out)⟩
    ·rw [if_neg c3] at H
     exact absurd H (by simp)
   ·rw [if_neg c2] at H
    have c2b0 : decide (x1001_1 < (s0_0.size : Int)) = false := decide_eq_false c2
    clear c2
    simp only [Option.some.injEq, Prod.mk.injEq] at H
    obtain ⟨rfl, rfl⟩ := H
    obtain ⟨HGz9, hgz9⟩ := HI0.out
    have hcz9_0 := cellS135_0 HGz9
    have hcz9_1 := cellS135_1 HGz9
    have hfz9_0 := blk_frozen HGz9 0
    have hfz9_1 := blk_frozen HGz9 1
    clear HGz9 hgz9
    go_wp2
    repeat (go_quiet (fail); try go_wp2)
    first | go_end0 | ((try simp only [Exit.inBlock, Exit.then]); refine bodyPost_ret (results_none rfl _ _ _) rfl ?_)
    exact ⟨by first | rfl | (simp [errW_none, errW_some] <;> rfl) | (simp [*, errW_none, errW_some] <;> rfl) | (simp [errW_none, errW_some, Go.Proofs.YtmocooihkobdjaaDoor.listNe]; done), by repeat (first | (with_reducible first | exact HI0.out | apply IsS135.alloc | apply IsS135.drewN | apply IsS135.drew | apply IsS135.set_0 | apply IsS135.set_1) | exact HI0.out), by repeat (first | (with_reducible first | exact HB.out | apply below_alloc | apply pw_below_drewN | apply below_drew1 | refine below_set ?_ (IsS135.ge HI0.out)) | exact HB.out), by repeat (first | (with_reducible first | exact HK.out | apply KeepBut.set_ | apply keep_drewN | apply keep_drew | apply keep_alloc) | exact HK.out)⟩
end Go.Proofs.YtmocooihkobdjaaDoor.T
end
section
namespace Go.Proofs.YtmocooihkobdjaaDoor.T
open Go.RowKit Go.Proofs.YtmocooihkobdjaaDoorW.PrintWords Go.Proofs.YtmocooihkobdjaaDoorW.PrintLast Go.Proofs.YtmocooihkobdjaaDoorW.PrintMore
attribute [local go_sem] max2_int min2_int max_two min_two max_three min_three max_four min_four
set_option linter.unusedVariables false
set_option linter.unusedSimpArgs false
def relation_reader_pass.f (k : Nat) (s0_0 : ByteArray) (s0_1 : Int) (a1 : Int) : Option (ByteArray × Int) := (relation_reader_gaps.f k s0_0 (wrap64 (s0_1 + a1))).bind fun bt142 => (some (bt142.1, bt142.2))
theorem relation_reader_pass.mono : ∀ a0 a1 a2 k, LeO (relation_reader_pass.f k a0 a1 a2) (relation_reader_pass.f (k + 1) a0 a1 a2) := by
 intro a0 a1 a2 k
 unfold relation_reader_pass.f
 repeat' first
   | (with_reducible exact relation_reader_gaps.mono _ _ _)
   | (with_reducible exact LeO.refl _)
   | (with_reducible exact LeO.none _)
   | (with_reducible refine LeO.ite ?_ ?_)
   | (with_reducible refine LeO.bind ?_ (fun _ => ?_))
   | exact relation_reader_gaps.mono _ _ _
   | exact LeO.none _
   | refine LeO.ite ?_ ?_
   | refine LeO.bind ?_ (fun _ => ?_)
set_option maxHeartbeats 8000000 in
set_option maxRecDepth 100000 in
theorem relation_reader_pass.calls (k : Nat) (g : Nat) (s0_0 : ByteArray) (s0_1 : Int) (a1 : Int) (r1 : ByteArray) (r2 : Int) (w0 w : World) (hI : IsS135 w0 w g s0_0 s0_1) (hB : Below w0.heap.size w0 w) (h : relation_reader_pass.f k s0_0 s0_1 a1 = some (r1, r2)) :
  Calls Tryd.prog 121 #[.pointer (some ⟨g, 0, none⟩), .int .i64 a1] w fun e w' => e = .returned (.tuple #[]) ∧ IsS135 w0 w' g r1 r2 ∧ Below w0.heap.size w0 w' ∧ KeepBut w w' g none := by
 have HI0 := Aside0.mk hI
 have HK := Aside0.mk (KeepBut.refl w g none)
 have HL := Aside0.mk hB.size
 clear hI
 have HW0 := Aside0.mk hB.size
 have HB := Aside0.mk hB
 clear hB
 have H : ((relation_reader_gaps.f k s0_0 (wrap64 (s0_1 + a1))).bind fun bt142 => (some (bt142.1, bt142.2))) = some (r1, r2) := h
 clear h
 replace H := Option.bind_eq_some_iff.mp H
 obtain ⟨⟨t142, t143⟩, A30, H⟩ := H
 replace H : (some (t142, t143)) = some (r1, r2) := H
 have A3 := Aside0.mk A30
 clear A30
 simp only [Option.some.injEq, Prod.mk.injEq] at H
 obtain ⟨rfl, rfl⟩ := H
 obtain ⟨HGz4, hgz4⟩ := HI0.out
 have hcz4_0 := cellS135_0 HGz4
 have hcz4_1 := cellS135_1 HGz4
 have hfz4_0 := blk_frozen HGz4 0
 have hfz4_1 := blk_frozen HGz4 1
 clear HGz4 hgz4
 go_enter Tryd.func121, Tryd.ntmps121
 go_wp2_with (first | ((with_reducible refine gate_callee (f := 107) rfl ?_); refine goesL_ (some 13) rfl rfl Tryd.func107 (by kernel_rfl) rfl #[.pointer (some ⟨g, 0, none⟩)] rfl (by (try simp only [List.map_toArray, List.map_cons, List.map_nil]); first | done | rfl | (simp only [List.length_drop, List.length_take]; rfl) | (simp; done)) ?_; (with_reducible refine (relation_reader_gaps.calls k g s0_0 (wrap64 (s0_1 + a1)) t142 t143 w0 _ ?side1 ?side2 A3.out).mono ?_); (case side1 => repeat (first | (with_reducible first | exact HI0.out | apply IsS135.alloc | apply IsS135.drewN | apply IsS135.drew | apply IsS135.set_0 | apply IsS135.set_1) | exact HI0.out)); (case side2 => repeat (first | (with_reducible first | exact HB.out | apply below_alloc | apply pw_below_drewN | apply below_drew1 | refine below_set ?_ (IsS135.ge HI0.out)) | exact HB.out)); rintro e w5 ⟨rfl, hi, hb, hk⟩; refine ⟨_, rfl, ?_⟩; have n0_ := Aside0.mk (KeepBut.trans (by repeat (first | (with_reducible first | exact HK.out | apply KeepBut.set_ | apply keep_drewN | apply keep_drew | apply keep_alloc) | exact HK.out)) hk (.inl rfl)); have n1_ := Aside0.mk (hb); have n2_ := Aside0.mk (hi); clear HK; clear HB; clear HI0; have HK := n0_; have HB := n1_; have HI0 := n2_; clear n0_ n1_ n2_; (try clear hb); (try clear hb2); (try clear hk); (try clear hi)))
 first | go_end0 | ((try simp only [Exit.inBlock, Exit.then]); refine bodyPost_ret (results_none rfl _ _ _) rfl ?_)
 exact ⟨by first | rfl | (simp [errW_none, errW_some] <;> rfl) | (simp [*, errW_none, errW_some] <;> rfl) | (simp [errW_none, errW_some, Go.Proofs.YtmocooihkobdjaaDoor.listNe]; done), by repeat (first | (with_reducible first | exact HI0.out | apply IsS135.alloc | apply IsS135.drewN | apply IsS135.drew | apply IsS135.set_0 | apply IsS135.set_1) | exact HI0.out), by repeat (first | (with_reducible first | exact HB.out | apply below_alloc | apply pw_below_drewN | apply below_drew1 | refine below_set ?_ (IsS135.ge HI0.out)) | exact HB.out), by repeat (first | (with_reducible first | exact HK.out | apply KeepBut.set_ | apply keep_drewN | apply keep_drew | apply keep_alloc) | exact HK.out)⟩
end Go.Proofs.YtmocooihkobdjaaDoor.T
end
section
namespace Go.Proofs.YtmocooihkobdjaaDoor.T
open Go.RowKit Go.Proofs.YtmocooihkobdjaaDoorW.PrintWords Go.Proofs.YtmocooihkobdjaaDoorW.PrintLast Go.Proofs.YtmocooihkobdjaaDoorW.PrintMore
attribute [local go_sem] max2_int min2_int max_two min_two max_three min_three max_four min_four
set_option linter.unusedVariables false
set_option linter.unusedSimpArgs false
def relation_reader_takes.f (k : Nat) (s0_0 : ByteArray) (s0_1 : Int) (a1 : Int) : Option (Bool × ByteArray × Int) := if s0_1 = (s0_0.size : Int) then (some (false, s0_0, s0_1)) else (if 0 ≤ s0_1 then (if s0_1 < (s0_0.size : Int) then (if (bt s0_0 s0_1) = a1 then ((relation_reader_pass.f k s0_0 s0_1 1).bind fun bt144 => (some (true, bt144.1, bt144.2))) else (some (false, s0_0, s0_1))) else (none)) else (none))
theorem relation_reader_takes.mono : ∀ a0 a1 a2 k, LeO (relation_reader_takes.f k a0 a1 a2) (relation_reader_takes.f (k + 1) a0 a1 a2) := by
 intro a0 a1 a2 k
 unfold relation_reader_takes.f
 repeat' first
   | (with_reducible exact relation_reader_pass.mono _ _ _ _)
   | (with_reducible exact LeO.refl _)
   | (with_reducible exact LeO.none _)
   | (with_reducible refine LeO.ite ?_ ?_)
   | (with_reducible refine LeO.bind ?_ (fun _ => ?_))
   | exact relation_reader_pass.mono _ _ _ _
   | exact LeO.none _
   | refine LeO.ite ?_ ?_
   | refine LeO.bind ?_ (fun _ => ?_)
set_option maxHeartbeats 8000000 in
set_option maxRecDepth 100000 in
theorem relation_reader_takes.calls (k : Nat) (g : Nat) (s0_0 : ByteArray) (s0_1 : Int) (a1 : Int) (r1 : Bool) (r2 : ByteArray) (r3 : Int) (w0 w : World) (hI : IsS135 w0 w g s0_0 s0_1) (hB : Below w0.heap.size w0 w) (h : relation_reader_takes.f k s0_0 s0_1 a1 = some (r1, r2, r3)) :
  Calls Tryd.prog 109 #[.pointer (some ⟨g, 0, none⟩), .int .u8 a1] w fun e w' => e = .returned (.bool r1) ∧ IsS135 w0 w' g r2 r3 ∧ Below w0.heap.size w0 w' ∧ KeepBut w w' g none := by
 have HI0 := Aside0.mk hI
 have HK := Aside0.mk (KeepBut.refl w g none)
 have HL := Aside0.mk hB.size
 clear hI
 have HW0 := Aside0.mk hB.size
 have HB := Aside0.mk hB
 clear hB
 have H : (if s0_1 = (s0_0.size : Int) then (some (false, s0_0, s0_1)) else (if 0 ≤ s0_1 then (if s0_1 < (s0_0.size : Int) then (if (bt s0_0 s0_1) = a1 then ((relation_reader_pass.f k s0_0 s0_1 1).bind fun bt144 => (some (true, bt144.1, bt144.2))) else (some (false, s0_0, s0_1))) else (none)) else (none))) = some (r1, r2, r3) := h
 clear h
 by_cases c3 : s0_1 = (s0_0.size : Int)
 ·rw [if_pos c3] at H
  have c3b0 : (s0_1 == (s0_0.size : Int)) = true := beq_iff_eq.mpr c3
  have c3b1 : (s0_1 != (s0_0.size : Int)) = false := bne_eq_false_iff_eq.mpr c3
  clear c3
  simp only [Option.some.injEq, Prod.mk.injEq] at H
  obtain ⟨rfl, rfl, rfl⟩ := H
  obtain ⟨HGz4, hgz4⟩ := HI0.out
  have hcz4_0 := cellS135_0 HGz4
  have hcz4_1 := cellS135_1 HGz4
  have hfz4_0 := blk_frozen HGz4 0
  have hfz4_1 := blk_frozen HGz4 1
  clear HGz4 hgz4
  go_enter Tryd.func109, Tryd.ntmps109
  go_wp2
  repeat (go_quiet (fail); try go_wp2)
  go_ret
  exact ⟨by first | rfl | (simp [errW_none, errW_some] <;> rfl) | (simp [*, errW_none, errW_some] <;> rfl) | (simp [errW_none, errW_some, Go.Proofs.YtmocooihkobdjaaDoor.listNe]; done), by repeat (first | (with_reducible first | exact HI0.out | apply IsS135.alloc | apply IsS135.drewN | apply IsS135.drew | apply IsS135.set_0 | apply IsS135.set_1) | exact HI0.out), by repeat (first | (with_reducible first | exact HB.out | apply below_alloc | apply pw_below_drewN | apply below_drew1 | refine below_set ?_ (IsS135.ge HI0.out)) | exact HB.out), by repeat (first | (with_reducible first | exact HK.out | apply KeepBut.set_ | apply keep_drewN | apply keep_drew | apply keep_alloc) | exact HK.out)⟩
 ·rw [if_neg c3] at H
  have c3b0 : (s0_1 == (s0_0.size : Int)) = false := beq_eq_false_iff_ne.mpr c3
  have c3b1 : (s0_1 != (s0_0.size : Int)) = true := bne_iff_ne.mpr c3
  by_cases c5 : 0 ≤ s0_1
  ·rw [if_pos c5] at H
   have c5b0 : decide (0 ≤ s0_1) = true := decide_eq_true c5
   clear c5
   by_cases c6 : s0_1 < (s0_0.size : Int)
   ·rw [if_pos c6] at H
    have c6b0 : decide (s0_1 < (s0_0.size : Int)) = true := decide_eq_true c6
    clear c6
    by_cases c8 : (bt s0_0 s0_1) = a1
    ·rw [if_pos c8] at H
     have c8b0 : ((bt s0_0 s0_1) == a1) = true := beq_iff_eq.mpr c8
     have c8b1 : ((bt s0_0 s0_1) != a1) = false := bne_eq_false_iff_eq.mpr c8
     clear c8
     replace H := Option.bind_eq_some_iff.mp H
     obtain ⟨⟨t144, t145⟩, A90, H⟩ := H
     replace H : (some (true, t144, t145)) = some (r1, r2, r3) := H
     have A9 := Aside0.mk A90
     clear A90
     simp only [Option.some.injEq, Prod.mk.injEq] at H
     obtain ⟨rfl, rfl, rfl⟩ := H
     obtain ⟨HGz10, hgz10⟩ := HI0.out
     have hcz10_0 := cellS135_0 HGz10
     have hcz10_1 := cellS135_1 HGz10
     have hfz10_0 := blk_frozen HGz10 0
     have hfz10_1 := blk_frozen HGz10 1
     clear HGz10 hgz10
     have p7 : 0 ≤ (s0_1 : Int) := of_decide_eq_true (by first | (with_reducible assumption) | assumption)
     have q7 : s0_1 < (s0_0.size : Int) := of_decide_eq_true (by first | (with_reducible assumption) | assumption)
     have hx7 := bt_at s0_0 s0_1
     replace p7 := eq_true p7
     replace q7 := eq_true q7
     go_enter Tryd.func109, Tryd.ntmps109
     go_wp2_with (first | (go_at_call 121; (with_reducible refine (relation_reader_pass.calls k g s0_0 s0_1 1 t144 t145 w0 _ ?side1 ?side2 A9.out).mono ?_); (case side1 => repeat (first | (with_reducible first | exact HI0.out | apply IsS135.alloc | apply IsS135.drewN | apply IsS135.drew | apply IsS135.set_0 | apply IsS135.set_1) | exact HI0.out)); (case side2 => repeat (first | (with_reducible first | exact HB.out | apply below_alloc | apply pw_below_drewN | apply below_drew1 | refine below_set ?_ (IsS135.ge HI0.out)) | exact HB.out)); rintro e w11 ⟨rfl, hi, hb, hk⟩; have n0_ := Aside0.mk (KeepBut.trans (by repeat (first | (with_reducible first | exact HK.out | apply KeepBut.set_ | apply keep_drewN | apply keep_drew | apply keep_alloc) | exact HK.out)) hk (.inl rfl)); have n1_ := Aside0.mk (hb); have n2_ := Aside0.mk (hi); clear HK; clear HB; clear HI0; have HK := n0_; have HB := n1_; have HI0 := n2_; clear n0_ n1_ n2_; (try clear hb); (try clear hb2); (try clear hk); (try clear hi)))
     repeat (go_quiet (first | (go_at_call 121; (with_reducible refine (relation_reader_pass.calls k g s0_0 s0_1 1 t144 t145 w0 _ ?side1 ?side2 A9.out).mono ?_); (case side1 => repeat (first | (with_reducible first | exact HI0.out | apply IsS135.alloc | apply IsS135.drewN | apply IsS135.drew | apply IsS135.set_0 | apply IsS135.set_1) | exact HI0.out)); (case side2 => repeat (first | (with_reducible first | exact HB.out | apply below_alloc | apply pw_below_drewN | apply below_drew1 | refine below_set ?_ (IsS135.ge HI0.out)) | exact HB.out)); rintro e w11 ⟨rfl, hi, hb, hk⟩; have n0_ := Aside0.mk (KeepBut.trans (by repeat (first | (with_reducible first | exact HK.out | apply KeepBut.set_ | apply keep_drewN | apply keep_drew | apply keep_alloc) | exact HK.out)) hk (.inl rfl)); have n1_ := Aside0.mk (hb); have n2_ := Aside0.mk (hi); clear HK; clear HB; clear HI0; have HK := n0_; have HB := n1_; have HI0 := n2_; clear n0_ n1_ n2_; (try clear hb); (try clear hb2); (try clear hk); (try clear hi))); try go_wp2_with (first | (go_at_call 121; (with_reducible refine (relation_reader_pass.calls k g s0_0 s0_1 1 t144 t145 w0 _ ?side1 ?side2 A9.out).mono ?_); (case side1 => repeat (first | (with_reducible first | exact HI0.out | apply IsS135.alloc | apply IsS135.drewN | apply IsS135.drew | apply IsS135.set_0 | apply IsS135.set_1) | exact HI0.out)); (case side2 => repeat (first | (with_reducible first | exact HB.out | apply below_alloc | apply pw_below_drewN | apply below_drew1 | refine below_set ?_ (IsS135.ge HI0.out)) | exact HB.out)); rintro e w11 ⟨rfl, hi, hb, hk⟩; have n0_ := Aside0.mk (KeepBut.trans (by repeat (first | (with_reducible first | exact HK.out | apply KeepBut.set_ | apply keep_drewN | apply keep_drew | apply keep_alloc) | exact HK.out)) hk (.inl rfl)); have n1_ := Aside0.mk (hb); have n2_ := Aside0.mk (hi); clear HK; clear HB; clear HI0; have HK := n0_; have HB := n1_; have HI0 := n2_; clear n0_ n1_ n2_; (try clear hb); (try clear hb2); (try clear hk); (try clear hi))))
     go_ret
     exact ⟨by first | rfl | (simp [errW_none, errW_some] <;> rfl) | (simp [*, errW_none, errW_some] <;> rfl) | (simp [errW_none, errW_some, Go.Proofs.YtmocooihkobdjaaDoor.listNe]; done), by repeat (first | (with_reducible first | exact HI0.out | apply IsS135.alloc | apply IsS135.drewN | apply IsS135.drew | apply IsS135.set_0 | apply IsS135.set_1) | exact HI0.out), by repeat (first | (with_reducible first | exact HB.out | apply below_alloc | apply pw_below_drewN | apply below_drew1 | refine below_set ?_ (IsS135.ge HI0.out)) | exact HB.out), by repeat (first | (with_reducible first | exact HK.out | apply KeepBut.set_ | apply keep_drewN | apply keep_drew | apply keep_alloc) | exact HK.out)⟩
    ·rw [if_neg c8] at H
     have c8b0 : ((bt s0_0 s0_1) == a1) = false := beq_eq_false_iff_ne.mpr c8
     have c8b1 : ((bt s0_0 s0_1) != a1) = true := bne_iff_ne.mpr c8
     simp only [Option.some.injEq, Prod.mk.injEq] at H
     obtain ⟨rfl, rfl, rfl⟩ := H
     obtain ⟨HGz12, hgz12⟩ := HI0.out
     have hcz12_0 := cellS135_0 HGz12
     have hcz12_1 := cellS135_1 HGz12
     have hfz12_0 := blk_frozen HGz12 0
     have hfz12_1 := blk_frozen HGz12 1
     clear HGz12 hgz12
     have p7 : 0 ≤ (s0_1 : Int) := of_decide_eq_true (by first | (with_reducible assumption) | assumption)
     have q7 : s0_1 < (s0_0.size : Int) := of_decide_eq_true (by first | (with_reducible assumption) | assumption)
     have hx7 := bt_at s0_0 s0_1
     replace p7 := eq_true p7
     replace q7 := eq_true q7
     go_enter Tryd.func109, Tryd.ntmps109
     go_wp2
     repeat (go_quiet (fail); try go_wp2)
     go_ret
     exact ⟨by first | rfl | (simp [errW_none, errW_some] <;> rfl) | (simp [*, errW_none, errW_some] <;> rfl) | (simp [errW_none, errW_some, Go.Proofs.YtmocooihkobdjaaDoor.listNe]; done), by repeat (first | (with_reducible first | exact HI0.out | apply IsS135.alloc | apply IsS135.drewN | apply IsS135.drew | apply IsS135.set_0 | apply IsS135.set_1) | exact HI0.out), by repeat (first | (with_reducible first | exact HB.out | apply below_alloc | apply pw_below_drewN | apply below_drew1 | refine below_set ?_ (IsS135.ge HI0.out)) | exact HB.out), by repeat (first | (with_reducible first | exact HK.out | apply KeepBut.set_ | apply keep_drewN | apply keep_drew | apply keep_alloc) | exact HK.out)⟩
   ·rw [if_neg c6] at H
    exact absurd H (by simp)
  ·rw [if_neg c5] at H
   exact absurd H (by simp)
end Go.Proofs.YtmocooihkobdjaaDoor.T
end
section
namespace Go.Proofs.YtmocooihkobdjaaDoor.T
open Go.RowKit Go.Proofs.YtmocooihkobdjaaDoorW.PrintWords Go.Proofs.YtmocooihkobdjaaDoorW.PrintLast Go.Proofs.YtmocooihkobdjaaDoorW.PrintMore
attribute [local go_sem] max2_int min2_int max_two min_two max_three min_three max_four min_four
set_option linter.unusedVariables false
set_option linter.unusedSimpArgs false
def relation_reader_run.l0 : Nat → Bool → Int → ByteArray → Int → Option (ByteArray × ByteArray × Int)
 | 0, _, _, _, _ => none
 | k + 1, x1, x5, x1000, x1001 => if x5 < (x1000.size : Int) then (if 0 ≤ x5 then ((relation_kind.f k (bt x1000 x5)).bind fun t146 => (if x1 = true then (if t146 = 3 then (if t146 = 1 then (if 0 ≤ x1001 then (if x1001 ≤ x5 then (if x5 ≤ (x1000.size : Int) then (some (x1000.extract (x1001 : Int).toNat (x5 : Int).toNat, x1000, x1001)) else (none)) else (none)) else (none)) else (if t146 = 2 then (if 0 ≤ x1001 then (if x1001 ≤ x5 then (if x5 ≤ (x1000.size : Int) then (some (x1000.extract (x1001 : Int).toNat (x5 : Int).toNat, x1000, x1001)) else (none)) else (none)) else (none)) else (relation_reader_run.l0 k x1 (wrap64 (x5 + 1)) x1000 x1001))) else (if 0 ≤ x1001 then (if x1001 ≤ x5 then (if x5 ≤ (x1000.size : Int) then (some (x1000.extract (x1001 : Int).toNat (x5 : Int).toNat, x1000, x1001)) else (none)) else (none)) else (none))) else (if t146 = 1 then (if 0 ≤ x1001 then (if x1001 ≤ x5 then (if x5 ≤ (x1000.size : Int) then (some (x1000.extract (x1001 : Int).toNat (x5 : Int).toNat, x1000, x1001)) else (none)) else (none)) else (none)) else (if t146 = 2 then (if 0 ≤ x1001 then (if x1001 ≤ x5 then (if x5 ≤ (x1000.size : Int) then (some (x1000.extract (x1001 : Int).toNat (x5 : Int).toNat, x1000, x1001)) else (none)) else (none)) else (none)) else (relation_reader_run.l0 k x1 (wrap64 (x5 + 1)) x1000 x1001))))) else (none)) else (if 0 ≤ x1001 then (if x1001 ≤ x5 then (if x5 ≤ (x1000.size : Int) then (some (x1000.extract (x1001 : Int).toNat (x5 : Int).toNat, x1000, x1001)) else (none)) else (none)) else (none))
def relation_reader_run.f (k : Nat) (s0_0 : ByteArray) (s0_1 : Int) (a1 : Bool) : Option (ByteArray × ByteArray × Int) := relation_reader_run.l0 k a1 s0_1 s0_0 s0_1
theorem relation_reader_run.mono_l : ∀ k, (∀ y0 y1 y2 y3, LeO (relation_reader_run.l0 k y0 y1 y2 y3) (relation_reader_run.l0 (k + 1) y0 y1 y2 y3))
 | 0 => fun _ _ _ _ r h => by simp [relation_reader_run.l0] at h
 | k + 1 => by
  have ih0 := relation_reader_run.mono_l k
  ·intro y0 y1 y2 y3
   unfold relation_reader_run.l0
   repeat' first
   | (with_reducible exact ih0 _ _ _ _)
   | (with_reducible exact relation_kind.mono _ _)
   | (with_reducible exact LeO.refl _)
   | (with_reducible exact LeO.none _)
   | (with_reducible refine LeO.ite ?_ ?_)
   | (with_reducible refine LeO.bind ?_ (fun _ => ?_))
   | exact ih0 _ _ _ _
   | exact relation_kind.mono _ _
   | exact LeO.none _
   | refine LeO.ite ?_ ?_
   | refine LeO.bind ?_ (fun _ => ?_)
theorem relation_reader_run.mono : ∀ a0 a1 a2 k, LeO (relation_reader_run.f k a0 a1 a2) (relation_reader_run.f (k + 1) a0 a1 a2) := by
 intro a0 a1 a2 k
 have ih0 := relation_reader_run.mono_l k
 unfold relation_reader_run.f
 repeat' first
   | (with_reducible exact ih0 _ _ _ _)
   | (with_reducible exact relation_kind.mono _ _)
   | (with_reducible exact LeO.refl _)
   | (with_reducible exact LeO.none _)
   | (with_reducible refine LeO.ite ?_ ?_)
   | (with_reducible refine LeO.bind ?_ (fun _ => ?_))
   | exact ih0 _ _ _ _
   | exact relation_kind.mono _ _
   | exact LeO.none _
   | refine LeO.ite ?_ ?_
   | refine LeO.bind ?_ (fun _ => ?_)
set_option maxHeartbeats 8000000 in
set_option maxRecDepth 100000 in
theorem relation_reader_run.calls (k : Nat) (g : Nat) (s0_0 : ByteArray) (s0_1 : Int) (a1 : Bool) (r1 : ByteArray) (r2 : ByteArray) (r3 : Int) (w0 w : World) (hI : IsS135 w0 w g s0_0 s0_1) (hB : Below w0.heap.size w0 w) (h : relation_reader_run.f k s0_0 s0_1 a1 = some (r1, r2, r3)) :
  Calls Tryd.prog 120 #[.pointer (some ⟨g, 0, none⟩), .bool a1] w fun e w' => e = .returned (.string r1) ∧ IsS135 w0 w' g r2 r3 ∧ Below w0.heap.size w0 w' ∧ KeepBut w w' g none := by
 have HI0 := Aside0.mk hI
 have HK := Aside0.mk (KeepBut.refl w g none)
 have HL := Aside0.mk hB.size
 clear hI
 have HW0 := Aside0.mk hB.size
 have HB := Aside0.mk hB
 clear hB
 have H : (relation_reader_run.l0 k a1 s0_1 s0_0 s0_1) = some (r1, r2, r3) := h
 clear h
 have H' := Aside0.mk H
 clear H
 obtain ⟨HGz3, hgz3⟩ := HI0.out
 have hcz3_0 := cellS135_0 HGz3
 have hcz3_1 := cellS135_1 HGz3
 have hfz3_0 := blk_frozen HGz3 0
 have hfz3_1 := blk_frozen HGz3 1
 clear HGz3 hgz3
 go_enter Tryd.func120, Tryd.ntmps120
 go_wp2
 go_loopg [5] k (fun kq v5 w' => ∃ (x5_1 : Int), v5 = .int .i64 x5_1 ∧ Aside0 (relation_reader_run.l0 kq a1 x5_1 s0_0 s0_1 = some (r1, r2, r3)) ∧ Aside0 (kq ≤ k) ∧ Aside0 (IsS135 w0 w' g s0_0 s0_1) ∧ Aside0 (KeepBut w w' g none) ∧ Aside0 (Below w0.heap.size w0 w'))
 case atStart => exact ⟨(s0_1), (by first | rfl | (simp; done) | (simp [*]; done)), H', ⟨Nat.le_refl _⟩, ⟨by repeat (first | (with_reducible first | exact HI0.out | apply IsS135.alloc | apply IsS135.drewN | apply IsS135.drew | apply IsS135.set_0 | apply IsS135.set_1) | exact HI0.out)⟩, ⟨by repeat (first | (with_reducible first | exact HK.out | apply KeepBut.set_ | apply keep_drewN | apply keep_drew | apply keep_alloc) | exact HK.out)⟩, ⟨by repeat (first | (with_reducible first | exact HB.out | apply below_alloc | apply pw_below_drewN | apply below_drew1 | refine below_set ?_ (IsS135.ge HI0.out)) | exact HB.out)⟩⟩
 case round =>
  clear H'
  try clear c1
  try clear p2
  try clear hcz3_0
  try clear hcz3_1
  try clear hfz3_0
  try clear hfz3_1
  obtain ⟨x5_1, rfl, HA, HK1, HI0, HK, HB⟩ := hrel
  cases gk with
  | zero => exact absurd HA.out (by simp [relation_reader_run.l0])
  | succ k1 =>
   have H := HA.out
   clear HA
   simp only [relation_reader_run.l0] at H
   by_cases c4 : x5_1 < (s0_0.size : Int)
   ·rw [if_pos c4] at H
    have c4b0 : decide (x5_1 < (s0_0.size : Int)) = true := decide_eq_true c4
    clear c4
    by_cases c5 : 0 ≤ x5_1
    ·rw [if_pos c5] at H
     have c5b0 : decide (0 ≤ x5_1) = true := decide_eq_true c5
     clear c5
     replace H := Option.bind_eq_some_iff.mp H
     obtain ⟨t146, A70, H⟩ := H
     replace H : (if a1 = true then (if t146 = 3 then (if t146 = 1 then (if 0 ≤ s0_1 then (if s0_1 ≤ x5_1 then (if x5_1 ≤ (s0_0.size : Int) then (some (s0_0.extract (s0_1 : Int).toNat (x5_1 : Int).toNat, s0_0, s0_1)) else (none)) else (none)) else (none)) else (if t146 = 2 then (if 0 ≤ s0_1 then (if s0_1 ≤ x5_1 then (if x5_1 ≤ (s0_0.size : Int) then (some (s0_0.extract (s0_1 : Int).toNat (x5_1 : Int).toNat, s0_0, s0_1)) else (none)) else (none)) else (none)) else (relation_reader_run.l0 k1 a1 (wrap64 (x5_1 + 1)) s0_0 s0_1))) else (if 0 ≤ s0_1 then (if s0_1 ≤ x5_1 then (if x5_1 ≤ (s0_0.size : Int) then (some (s0_0.extract (s0_1 : Int).toNat (x5_1 : Int).toNat, s0_0, s0_1)) else (none)) else (none)) else (none))) else (if t146 = 1 then (if 0 ≤ s0_1 then (if s0_1 ≤ x5_1 then (if x5_1 ≤ (s0_0.size : Int) then (some (s0_0.extract (s0_1 : Int).toNat (x5_1 : Int).toNat, s0_0, s0_1)) else (none)) else (none)) else (none)) else (if t146 = 2 then (if 0 ≤ s0_1 then (if s0_1 ≤ x5_1 then (if x5_1 ≤ (s0_0.size : Int) then (some (s0_0.extract (s0_1 : Int).toNat (x5_1 : Int).toNat, s0_0, s0_1)) else (none)) else (none)) else (none)) else (relation_reader_run.l0 k1 a1 (wrap64 (x5_1 + 1)) s0_0 s0_1)))) = some (r1, r2, r3) := H
     have A7 := Aside0.mk A70
     clear A70
     by_cases c8 : a1 = true
     ·subst c8
      have H1 : (if t146 = 3 then (if t146 = 1 then (if 0 ≤ s0_1 then (if s0_1 ≤ x5_1 then (if x5_1 ≤ (s0_0.size : Int) then (some (s0_0.extract (s0_1 : Int).toNat (x5_1 : Int).toNat, s0_0, s0_1)) else (none)) else (none)) else (none)) else (if t146 = 2 then (if 0 ≤ s0_1 then (if s0_1 ≤ x5_1 then (if x5_1 ≤ (s0_0.size : Int) then (some (s0_0.extract (s0_1 : Int).toNat (x5_1 : Int).toNat, s0_0, s0_1)) else (none)) else (none)) else (none)) else (relation_reader_run.l0 k1 true (wrap64 (x5_1 + 1)) s0_0 s0_1))) else (if 0 ≤ s0_1 then (if s0_1 ≤ x5_1 then (if x5_1 ≤ (s0_0.size : Int) then (some (s0_0.extract (s0_1 : Int).toNat (x5_1 : Int).toNat, s0_0, s0_1)) else (none)) else (none)) else (none))) = some (r1, r2, r3) := by rw [if_pos rfl] at H; exact H
      clear H
      have H := H1
      clear H1
      by_cases c9 : t146 = 3
      ·rw [if_pos c9] at H
       have c9b0 : (t146 == 3) = true := beq_iff_eq.mpr c9
       have c9b1 : (t146 != 3) = false := bne_eq_false_iff_eq.mpr c9
       clear c9
       by_cases c10 : t146 = 1
       ·rw [if_pos c10] at H
        have c10b0 : (t146 == 1) = true := beq_iff_eq.mpr c10
        have c10b1 : (t146 != 1) = false := bne_eq_false_iff_eq.mpr c10
        clear c10
        by_cases c11 : 0 ≤ s0_1
        ·rw [if_pos c11] at H
         have c11b0 := eq_true c11
         have c11b1 : decide (0 ≤ s0_1) = true := decide_eq_true c11
         clear c11
         by_cases c12 : s0_1 ≤ x5_1
         ·rw [if_pos c12] at H
          have c12b0 := eq_true c12
          have c12b1 : decide (s0_1 ≤ x5_1) = true := decide_eq_true c12
          clear c12
          by_cases c13 : x5_1 ≤ (s0_0.size : Int)
          ·rw [if_pos c13] at H
           have c13b0 := eq_true c13
           have c13b1 : decide (x5_1 ≤ (s0_0.size : Int)) = true := decide_eq_true c13
           clear c13
           simp only [Option.some.injEq, Prod.mk.injEq] at H
           obtain ⟨rfl, rfl, rfl⟩ := H
           obtain ⟨HGz14, hgz14⟩ := HI0.out
           have hcz14_0 := cellS135_0 HGz14
           have hcz14_1 := cellS135_1 HGz14
           have hfz14_0 := blk_frozen HGz14 0
           have hfz14_1 := blk_frozen HGz14 1
           clear HGz14 hgz14
           have p6 : 0 ≤ (x5_1 : Int) := of_decide_eq_true (by first | (with_reducible assumption) | assumption)
           have q6 : x5_1 < (s0_0.size : Int) := of_decide_eq_true (by first | (with_reducible assumption) | assumption)
           have hx6 := bt_at s0_0 x5_1
           replace p6 := eq_true p6
           replace q6 := eq_true q6
           go_wp2_with (first | (go_at_call 119; (with_reducible refine (relation_kind.calls k1 (bt s0_0 x5_1) t146 _ A7.out).mono ?_); rintro e w' ⟨rfl, ⟨nd, rfl⟩⟩; (try first | exact ⟨rfl, _, World.drewN_drewN _ _ _⟩ | exact ⟨rfl, _, Eq.trans (World.drewN_drewN _ _ _) (congrArg (World.drewN _) (Nat.add_assoc _ _ _))⟩)))
           repeat (go_quiet (first | (go_at_call 119; (with_reducible refine (relation_kind.calls k1 (bt s0_0 x5_1) t146 _ A7.out).mono ?_); rintro e w' ⟨rfl, ⟨nd, rfl⟩⟩; (try first | exact ⟨rfl, _, World.drewN_drewN _ _ _⟩ | exact ⟨rfl, _, Eq.trans (World.drewN_drewN _ _ _) (congrArg (World.drewN _) (Nat.add_assoc _ _ _))⟩))); try go_wp2_with (first | (go_at_call 119; (with_reducible refine (relation_kind.calls k1 (bt s0_0 x5_1) t146 _ A7.out).mono ?_); rintro e w' ⟨rfl, ⟨nd, rfl⟩⟩; (try first | exact ⟨rfl, _, World.drewN_drewN _ _ _⟩ | exact ⟨rfl, _, Eq.trans (World.drewN_drewN _ _ _) (congrArg (World.drewN _) (Nat.add_assoc _ _ _))⟩))))
           go_ret
           exact ⟨by first | rfl | (simp [errW_none, errW_some] <;> rfl) | (simp [*, errW_none, errW_some] <;> rfl) | (simp [errW_none, errW_some, Go.Proofs.YtmocooihkobdjaaDoor.listNe]; done), by repeat (first | (with_reducible first | exact HI0.out | apply IsS135.alloc | apply IsS135.drewN | apply IsS135.drew | apply IsS135.set_0 | apply IsS135.set_1) | exact HI0.out), by repeat (first | (with_reducible first | exact HB.out | apply below_alloc | apply pw_below_drewN | apply below_drew1 | refine below_set ?_ (IsS135.ge HI0.out)) | exact HB.out), by repeat (first | (with_reducible first | exact HK.out | apply KeepBut.set_ | apply keep_drewN | apply keep_drew | apply keep_alloc) | exact HK.out)⟩
          ·rw [if_neg c13] at H
           exact absurd H (by simp)
         ·rw [if_neg c12] at H
          exact absurd H (by simp)
        ·rw [if_neg c11] at H
         exact absurd H (by simp)
       ·rw [if_neg c10] at H
        have c10b0 : (t146 == 1) = false := beq_eq_false_iff_ne.mpr c10
        have c10b1 : (t146 != 1) = true := bne_iff_ne.mpr c10
        by_cases c15 : t146 = 2
        ·rw [if_pos c15] at H
         have c15b0 : (t146 == 2) = true := beq_iff_eq.mpr c15
         have c15b1 : (t146 != 2) = false := bne_eq_false_iff_eq.mpr c15
         clear c15
         by_cases c16 : 0 ≤ s0_1
         ·rw [if_pos c16] at H
          have c16b0 := eq_true c16
          have c16b1 : decide (0 ≤ s0_1) = true := decide_eq_true c16
          clear c16
          by_cases c17 : s0_1 ≤ x5_1
          ·rw [if_pos c17] at H
           have c17b0 := eq_true c17
           have c17b1 : decide (s0_1 ≤ x5_1) = true := decide_eq_true c17
           clear c17
           by_cases c18 : x5_1 ≤ (s0_0.size : Int)
           ·rw [if_pos c18] at H
            have c18b0 := eq_true c18
            have c18b1 : decide (x5_1 ≤ (s0_0.size : Int)) = true := decide_eq_true c18
            clear c18
            simp only [Option.some.injEq, Prod.mk.injEq] at H
            obtain ⟨rfl, rfl, rfl⟩ := H
            obtain ⟨HGz19, hgz19⟩ := HI0.out
            have hcz19_0 := cellS135_0 HGz19
            have hcz19_1 := cellS135_1 HGz19
            have hfz19_0 := blk_frozen HGz19 0
            have hfz19_1 := blk_frozen HGz19 1
            clear HGz19 hgz19
            have p6 : 0 ≤ (x5_1 : Int) := of_decide_eq_true (by first | (with_reducible assumption) | assumption)
            have q6 : x5_1 < (s0_0.size : Int) := of_decide_eq_true (by first | (with_reducible assumption) | assumption)
            have hx6 := bt_at s0_0 x5_1
            replace p6 := eq_true p6
            replace q6 := eq_true q6
            go_wp2_with (first | (go_at_call 119; (with_reducible refine (relation_kind.calls k1 (bt s0_0 x5_1) t146 _ A7.out).mono ?_); rintro e w' ⟨rfl, ⟨nd, rfl⟩⟩; (try first | exact ⟨rfl, _, World.drewN_drewN _ _ _⟩ | exact ⟨rfl, _, Eq.trans (World.drewN_drewN _ _ _) (congrArg (World.drewN _) (Nat.add_assoc _ _ _))⟩)))
            repeat (go_quiet (first | (go_at_call 119; (with_reducible refine (relation_kind.calls k1 (bt s0_0 x5_1) t146 _ A7.out).mono ?_); rintro e w' ⟨rfl, ⟨nd, rfl⟩⟩; (try first | exact ⟨rfl, _, World.drewN_drewN _ _ _⟩ | exact ⟨rfl, _, Eq.trans (World.drewN_drewN _ _ _) (congrArg (World.drewN _) (Nat.add_assoc _ _ _))⟩))); try go_wp2_with (first | (go_at_call 119; (with_reducible refine (relation_kind.calls k1 (bt s0_0 x5_1) t146 _ A7.out).mono ?_); rintro e w' ⟨rfl, ⟨nd, rfl⟩⟩; (try first | exact ⟨rfl, _, World.drewN_drewN _ _ _⟩ | exact ⟨rfl, _, Eq.trans (World.drewN_drewN _ _ _) (congrArg (World.drewN _) (Nat.add_assoc _ _ _))⟩))))
            go_ret
            exact ⟨by first | rfl | (simp [errW_none, errW_some] <;> rfl) | (simp [*, errW_none, errW_some] <;> rfl) | (simp [errW_none, errW_some, Go.Proofs.YtmocooihkobdjaaDoor.listNe]; done), by repeat (first | (with_reducible first | exact HI0.out | apply IsS135.alloc | apply IsS135.drewN | apply IsS135.drew | apply IsS135.set_0 | apply IsS135.set_1) | exact HI0.out), by repeat (first | (with_reducible first | exact HB.out | apply below_alloc | apply pw_below_drewN | apply below_drew1 | refine below_set ?_ (IsS135.ge HI0.out)) | exact HB.out), by repeat (first | (with_reducible first | exact HK.out | apply KeepBut.set_ | apply keep_drewN | apply keep_drew | apply keep_alloc) | exact HK.out)⟩
           ·rw [if_neg c18] at H
            exact absurd H (by simp)
          ·rw [if_neg c17] at H
           exact absurd H (by simp)
         ·rw [if_neg c16] at H
          exact absurd H (by simp)
        ·rw [if_neg c15] at H
         have c15b0 : (t146 == 2) = false := beq_eq_false_iff_ne.mpr c15
         have c15b1 : (t146 != 2) = true := bne_iff_ne.mpr c15
         have H' := Aside0.mk H
         clear H
         obtain ⟨HGz20, hgz20⟩ := HI0.out
         have hcz20_0 := cellS135_0 HGz20
         have hcz20_1 := cellS135_1 HGz20
         have hfz20_0 := blk_frozen HGz20 0
         have hfz20_1 := blk_frozen HGz20 1
         clear HGz20 hgz20
         have p6 : 0 ≤ (x5_1 : Int) := of_decide_eq_true (by first | (with_reducible assumption) | assumption)
         have q6 : x5_1 < (s0_0.size : Int) := of_decide_eq_true (by first | (with_reducible assumption) | assumption)
         have hx6 := bt_at s0_0 x5_1
         replace p6 := eq_true p6
         replace q6 := eq_true q6
         go_wp2_with (first | (go_at_call 119; (with_reducible refine (relation_kind.calls k1 (bt s0_0 x5_1) t146 _ A7.out).mono ?_); rintro e w' ⟨rfl, ⟨nd, rfl⟩⟩; (try first | exact ⟨rfl, _, World.drewN_drewN _ _ _⟩ | exact ⟨rfl, _, Eq.trans (World.drewN_drewN _ _ _) (congrArg (World.drewN _) (Nat.add_assoc _ _ _))⟩)))
         go_roundg k1
         case measure => have := HK1.out; omega
         case rel => exact ⟨(wrap64 (x5_1 + 1)), (by first | rfl | (simp; done) | (simp [*]; done)), H', ⟨by have := HK1.out; omega⟩, ⟨by repeat (first | (with_reducible first | exact HI0.out | apply IsS135.alloc | apply IsS135.drewN | apply IsS135.drew | apply IsS135.set_0 | apply IsS135.set_1) | exact HI0.out)⟩, ⟨by repeat (first | (with_reducible first | exact HK.out | apply KeepBut.set_ | apply keep_drewN | apply keep_drew | apply keep_alloc) | exact HK.out)⟩, ⟨by repeat (first | (with_reducible first | exact HB.out | apply below_alloc | apply pw_below_drewN | apply below_drew1 | refine below_set ?_ (IsS135.ge HI0.out)) | exact HB.out)⟩⟩
      ·rw [if_neg c9] at H
       have c9b0 : (t146 == 3) = false := beq_eq_false_iff_ne.mpr c9
       have c9b1 : (t146 != 3) = true := bne_iff_ne.mpr c9
       by_cases c21 : 0 ≤ s0_1
       ·rw [if_pos c21] at H
        have c21b0 := eq_true c21
        have c21b1 : decide (0 ≤ s0_1) = true := decide_eq_true c21
        clear c21
        by_cases c22 : s0_1 ≤ x5_1
        ·rw [if_pos c22] at H
         have c22b0 := eq_true c22
         have c22b1 : decide (s0_1 ≤ x5_1) = true := decide_eq_true c22
         clear c22
         by_cases c23 : x5_1 ≤ (s0_0.size : Int)
         ·rw [if_pos c23] at H
          have c23b0 := eq_true c23
          have c23b1 : decide (x5_1 ≤ (s0_0.size : Int)) = true := decide_eq_true c23
          clear c23
          simp only [Option.some.injEq, Prod.mk.injEq] at H
          obtain ⟨rfl, rfl, rfl⟩ := H
          obtain ⟨HGz24, hgz24⟩ := HI0.out
          have hcz24_0 := cellS135_0 HGz24
          have hcz24_1 := cellS135_1 HGz24
          have hfz24_0 := blk_frozen HGz24 0
          have hfz24_1 := blk_frozen HGz24 1
          clear HGz24 hgz24
          have p6 : 0 ≤ (x5_1 : Int) := of_decide_eq_true (by first | (with_reducible assumption) | assumption)
          have q6 : x5_1 < (s0_0.size : Int) := of_decide_eq_true (by first | (with_reducible assumption) | assumption)
          have hx6 := bt_at s0_0 x5_1
          replace p6 := eq_true p6
          replace q6 := eq_true q6
          go_wp2_with (first | (go_at_call 119; (with_reducible refine (relation_kind.calls k1 (bt s0_0 x5_1) t146 _ A7.out).mono ?_); rintro e w' ⟨rfl, ⟨nd, rfl⟩⟩; (try first | exact ⟨rfl, _, World.drewN_drewN _ _ _⟩ | exact ⟨rfl, _, Eq.trans (World.drewN_drewN _ _ _) (congrArg (World.drewN _) (Nat.add_assoc _ _ _))⟩)))
          repeat (go_quiet (first | (go_at_call 119; (with_reducible refine (relation_kind.calls k1 (bt s0_0 x5_1) t146 _ A7.out).mono ?_); rintro e w' ⟨rfl, ⟨nd, rfl⟩⟩; (try first | exact ⟨rfl, _, World.drewN_drewN _ _ _⟩ | exact ⟨rfl, _, Eq.trans (World.drewN_drewN _ _ _) (congrArg (World.drewN _) (Nat.add_assoc _ _ _))⟩))); try go_wp2_with (first | (go_at_call 119; (with_reducible refine (relation_kind.calls k1 (bt s0_0 x5_1) t146 _ A7.out).mono ?_); rintro e w' ⟨rfl, ⟨nd, rfl⟩⟩; (try first | exact ⟨rfl, _, World.drewN_drewN _ _ _⟩ | exact ⟨rfl, _, Eq.trans (World.drewN_drewN _ _ _) (congrArg (World.drewN _) (Nat.add_assoc _ _ _))⟩))))
          go_ret
          exact ⟨by first | rfl | (simp [errW_none, errW_some] <;> rfl) | (simp [*, errW_none, errW_some] <;> rfl) | (simp [errW_none, errW_some, Go.Proofs.YtmocooihkobdjaaDoor.listNe]; done), by repeat (first | (with_reducible first | exact HI0.out | apply IsS135.alloc | apply IsS135.drewN | apply IsS135.drew | apply IsS135.set_0 | apply IsS135.set_1) | exact HI0.out), by repeat (first | (with_reducible first | exact HB.out | apply below_alloc | apply pw_below_drewN | apply below_drew1 | refine below_set ?_ (IsS135.ge HI0.out)) | exact HB.out), by repeat (first | (with_reducible first | exact HK.out | apply KeepBut.set_ | apply keep_drewN | apply keep_drew | apply keep_alloc) | exact HK.out)⟩
         ·rw [if_neg c23] at H
          exact absurd H (by simp)
        ·rw [if_neg c22] at H
         exact absurd H (by simp)
       ·rw [if_neg c21] at H
        exact absurd H (by simp)
     ·replace c8 := Bool.eq_false_iff.mpr c8
      subst c8
      have H1 : (if t146 = 1 then (if 0 ≤ s0_1 then (if s0_1 ≤ x5_1 then (if x5_1 ≤ (s0_0.size : Int) then (some (s0_0.extract (s0_1 : Int).toNat (x5_1 : Int).toNat, s0_0, s0_1)) else (none)) else (none)) else (none)) else (if t146 = 2 then (if 0 ≤ s0_1 then (if s0_1 ≤ x5_1 then (if x5_1 ≤ (s0_0.size : Int) then (some (s0_0.extract (s0_1 : Int).toNat (x5_1 : Int).toNat, s0_0, s0_1)) else (none)) else (none)) else (none)) else (relation_reader_run.l0 k1 false (wrap64 (x5_1 + 1)) s0_0 s0_1))) = some (r1, r2, r3) := by rw [if_neg (show ¬ (false = true) by decide)] at H; exact H
      clear H
      have H := H1
      clear H1
      by_cases c25 : t146 = 1
      ·rw [if_pos c25] at H
       have c25b0 : (t146 == 1) = true := beq_iff_eq.mpr c25
       have c25b1 : (t146 != 1) = false := bne_eq_false_iff_eq.mpr c25
       clear c25
       by_cases c26 : 0 ≤ s0_1
       ·rw [if_pos c26] at H
        have c26b0 := eq_true c26
        have c26b1 : decide (0 ≤ s0_1) = true := decide_eq_true c26
        clear c26
        by_cases c27 : s0_1 ≤ x5_1
        ·rw [if_pos c27] at H
         have c27b0 := eq_true c27
         have c27b1 : decide (s0_1 ≤ x5_1) = true := decide_eq_true c27
         clear c27
         by_cases c28 : x5_1 ≤ (s0_0.size : Int)
         ·rw [if_pos c28] at H
          have c28b0 := eq_true c28
          have c28b1 : decide (x5_1 ≤ (s0_0.size : Int)) = true := decide_eq_true c28
          clear c28
          simp only [Option.some.injEq, Prod.mk.injEq] at H
          obtain ⟨rfl, rfl, rfl⟩ := H
          obtain ⟨HGz29, hgz29⟩ := HI0.out
          have hcz29_0 := cellS135_0 HGz29
          have hcz29_1 := cellS135_1 HGz29
          have hfz29_0 := blk_frozen HGz29 0
          have hfz29_1 := blk_frozen HGz29 1
          clear HGz29 hgz29
          have p6 : 0 ≤ (x5_1 : Int) := of_decide_eq_true (by first | (with_reducible assumption) | assumption)
          have q6 : x5_1 < (s0_0.size : Int) := of_decide_eq_true (by first | (with_reducible assumption) | assumption)
          have hx6 := bt_at s0_0 x5_1
          replace p6 := eq_true p6
          replace q6 := eq_true q6
          go_wp2_with (first | (go_at_call 119; (with_reducible refine (relation_kind.calls k1 (bt s0_0 x5_1) t146 _ A7.out).mono ?_); rintro e w' ⟨rfl, ⟨nd, rfl⟩⟩; (try first | exact ⟨rfl, _, World.drewN_drewN _ _ _⟩ | exact ⟨rfl, _, Eq.trans (World.drewN_drewN _ _ _) (congrArg (World.drewN _) (Nat.add_assoc _ _ _))⟩)))
          repeat (go_quiet (first | (go_at_call 119; (with_reducible refine (relation_kind.calls k1 (bt s0_0 x5_1) t146 _ A7.out).mono ?_); rintro e w' ⟨rfl, ⟨nd, rfl⟩⟩; (try first | exact ⟨rfl, _, World.drewN_drewN _ _ _⟩ | exact ⟨rfl, _, Eq.trans (World.drewN_drewN _ _ _) (congrArg (World.drewN _) (Nat.add_assoc _ _ _))⟩))); try go_wp2_with (first | (go_at_call 119; (with_reducible refine (relation_kind.calls k1 (bt s0_0 x5_1) t146 _ A7.out).mono ?_); rintro e w' ⟨rfl, ⟨nd, rfl⟩⟩; (try first | exact ⟨rfl, _, World.drewN_drewN _ _ _⟩ | exact ⟨rfl, _, Eq.trans (World.drewN_drewN _ _ _) (congrArg (World.drewN _) (Nat.add_assoc _ _ _))⟩))))
          go_ret
          exact ⟨by first | rfl | (simp [errW_none, errW_some] <;> rfl) | (simp [*, errW_none, errW_some] <;> rfl) | (simp [errW_none, errW_some, Go.Proofs.YtmocooihkobdjaaDoor.listNe]; done), by repeat (first | (with_reducible first | exact HI0.out | apply IsS135.alloc | apply IsS135.drewN | apply IsS135.drew | apply IsS135.set_0 | apply IsS135.set_1) | exact HI0.out), by repeat (first | (with_reducible first | exact HB.out | apply below_alloc | apply pw_below_drewN | apply below_drew1 | refine below_set ?_ (IsS135.ge HI0.out)) | exact HB.out), by repeat (first | (with_reducible first | exact HK.out | apply KeepBut.set_ | apply keep_drewN | apply keep_drew | apply keep_alloc) | exact HK.out)⟩
         ·rw [if_neg c28] at H
          exact absurd H (by simp)
        ·rw [if_neg c27] at H
         exact absurd H (by simp)
       ·rw [if_neg c26] at H
        exact absurd H (by simp)
      ·rw [if_neg c25] at H
       have c25b0 : (t146 == 1) = false := beq_eq_false_iff_ne.mpr c25
       have c25b1 : (t146 != 1) = true := bne_iff_ne.mpr c25
       by_cases c30 : t146 = 2
       ·rw [if_pos c30] at H
        have c30b0 : (t146 == 2) = true := beq_iff_eq.mpr c30
        have c30b1 : (t146 != 2) = false := bne_eq_false_iff_eq.mpr c30
        clear c30
        by_cases c31 : 0 ≤ s0_1
        ·rw [if_pos c31] at H
         have c31b0 := eq_true c31
         have c31b1 : decide (0 ≤ s0_1) = true := decide_eq_true c31
         clear c31
         by_cases c32 : s0_1 ≤ x5_1
         ·rw [if_pos c32] at H
          have c32b0 := eq_true c32
          have c32b1 : decide (s0_1 ≤ x5_1) = true := decide_eq_true c32
          clear c32
          by_cases c33 : x5_1 ≤ (s0_0.size : Int)
          ·rw [if_pos c33] at H
           have c33b0 := eq_true c33
           have c33b1 : decide (x5_1 ≤ (s0_0.size : Int)) = true := decide_eq_true c33
           clear c33
           simp only [Option.some.injEq, Prod.mk.injEq] at H
           obtain ⟨rfl, rfl, rfl⟩ := H
           obtain ⟨HGz34, hgz34⟩ := HI0.out
           have hcz34_0 := cellS135_0 HGz34
           have hcz34_1 := cellS135_1 HGz34
           have hfz34_0 := blk_frozen HGz34 0
           have hfz34_1 := blk_frozen HGz34 1
           clear HGz34 hgz34
           have p6 : 0 ≤ (x5_1 : Int) := of_decide_eq_true (by first | (with_reducible assumption) | assumption)
           have q6 : x5_1 < (s0_0.size : Int) := of_decide_eq_true (by first | (with_reducible assumption) | assumption)
           have hx6 := bt_at s0_0 x5_1
           replace p6 := eq_true p6
           replace q6 := eq_true q6
           go_wp2_with (first | (go_at_call 119; (with_reducible refine (relation_kind.calls k1 (bt s0_0 x5_1) t146 _ A7.out).mono ?_); rintro e w' ⟨rfl, ⟨nd, rfl⟩⟩; (try first | exact ⟨rfl, _, World.drewN_drewN _ _ _⟩ | exact ⟨rfl, _, Eq.trans (World.drewN_drewN _ _ _) (congrArg (World.drewN _) (Nat.add_assoc _ _ _))⟩)))
           repeat (go_quiet (first | (go_at_call 119; (with_reducible refine (relation_kind.calls k1 (bt s0_0 x5_1) t146 _ A7.out).mono ?_); rintro e w' ⟨rfl, ⟨nd, rfl⟩⟩; (try first | exact ⟨rfl, _, World.drewN_drewN _ _ _⟩ | exact ⟨rfl, _, Eq.trans (World.drewN_drewN _ _ _) (congrArg (World.drewN _) (Nat.add_assoc _ _ _))⟩))); try go_wp2_with (first | (go_at_call 119; (with_reducible refine (relation_kind.calls k1 (bt s0_0 x5_1) t146 _ A7.out).mono ?_); rintro e w' ⟨rfl, ⟨nd, rfl⟩⟩; (try first | exact ⟨rfl, _, World.drewN_drewN _ _ _⟩ | exact ⟨rfl, _, Eq.trans (World.drewN_drewN _ _ _) (congrArg (World.drewN _) (Nat.add_assoc _ _ _))⟩))))
           go_ret
           exact ⟨by first | rfl | (simp [errW_none, errW_some] <;> rfl) | (simp [*, errW_none, errW_some] <;> rfl) | (simp [errW_none, errW_some, Go.Proofs.YtmocooihkobdjaaDoor.listNe]; done), by repeat (first | (with_reducible first | exact HI0.out | apply IsS135.alloc | apply IsS135.drewN | apply IsS135.drew | apply IsS135.set_0 | apply IsS135.set_1) | exact HI0.out), by repeat (first | (with_reducible first | exact HB.out | apply below_alloc | apply pw_below_drewN | apply below_drew1 | refine below_set ?_ (IsS135.ge HI0.out)) | exact HB.out), by repeat (first | (with_reducible first | exact HK.out | apply KeepBut.set_ | apply keep_drewN | apply keep_drew | apply keep_alloc) | exact HK.out)⟩
          ·rw [if_neg c33] at H
           exact absurd H (by simp)
         ·rw [if_neg c32] at H
          exact absurd H (by simp)
        ·rw [if_neg c31] at H
         exact absurd H (by simp)
       ·rw [if_neg c30] at H
        have c30b0 : (t146 == 2) = false := beq_eq_false_iff_ne.mpr c30
        have c30b1 : (t146 != 2) = true := bne_iff_ne.mpr c30
        have H' := Aside0.mk H
        clear H
        obtain ⟨HGz35, hgz35⟩ := HI0.out
        have hcz35_0 := cellS135_0 HGz35
        have hcz35_1 := cellS135_1 HGz35
        have hfz35_0 := blk_frozen HGz35 0
        have hfz35_1 := blk_frozen HGz35 1
        clear HGz35 hgz35
        have p6 : 0 ≤ (x5_1 : Int) := of_decide_eq_true (by first | (with_reducible assumption) | assumption)
        have q6 : x5_1 < (s0_0.size : Int) := of_decide_eq_true (by first | (with_reducible assumption) | assumption)
        have hx6 := bt_at s0_0 x5_1
        replace p6 := eq_true p6
        replace q6 := eq_true q6
        go_wp2_with (first | (go_at_call 119; (with_reducible refine (relation_kind.calls k1 (bt s0_0 x5_1) t146 _ A7.out).mono ?_); rintro e w' ⟨rfl, ⟨nd, rfl⟩⟩; (try first | exact ⟨rfl, _, World.drewN_drewN _ _ _⟩ | exact ⟨rfl, _, Eq.trans (World.drewN_drewN _ _ _) (congrArg (World.drewN _) (Nat.add_assoc _ _ _))⟩)))
        go_roundg k1
        case measure => have := HK1.out; omega
        case rel => exact ⟨(wrap64 (x5_1 + 1)), (by first | rfl | (simp; done) | (simp [*]; done)), H', ⟨by have := HK1.out; omega⟩, ⟨by repeat (first | (with_reducible first | exact HI0.out | apply IsS135.alloc | apply IsS135.drewN | apply IsS135.drew | apply IsS135.set_0 | apply IsS135.set_1) | exact HI0.out)⟩, ⟨by repeat (first | (with_reducible first | exact HK.out | apply KeepBut.set_ | apply keep_drewN | apply keep_drew | apply keep_alloc) | exact HK.out)⟩, ⟨by repeat (first | (with_reducible first | exact HB.out | apply below_alloc | apply pw_below_drewN | apply below_drew1 | refine below_set ?_ (IsS135.ge HI0.out)) | exact HB.out)⟩⟩
    ·rw [if_neg c5] at H
     exact absurd H (by simp)
   ·rw [if_neg c4] at H
    have c4b0 : decide (x5_1 < (s0_0.size : Int)) = false := decide_eq_false c4
    clear c4
    by_cases c36 : 0 ≤ s0_1
    ·rw [if_pos c36] at H
     have c36b0 := eq_true c36
     have c36b1 : decide (0 ≤ s0_1) = true := decide_eq_true c36
     clear c36
     by_cases c37 : s0_1 ≤ x5_1
     ·rw [if_pos c37] at H
      have c37b0 := eq_true c37
      have c37b1 : decide (s0_1 ≤ x5_1) = true := decide_eq_true c37
      clear c37
      by_cases c38 : x5_1 ≤ (s0_0.size : Int)
      ·rw [if_pos c38] at H
       have c38b0 := eq_true c38
       have c38b1 : decide (x5_1 ≤ (s0_0.size : Int)) = true := decide_eq_true c38
       clear c38
       simp only [Option.some.injEq, Prod.mk.injEq] at H
       obtain ⟨rfl, rfl, rfl⟩ := H
       obtain ⟨HGz39, hgz39⟩ := HI0.out
       have hcz39_0 := cellS135_0 HGz39
       have hcz39_1 := cellS135_1 HGz39
       have hfz39_0 := blk_frozen HGz39 0
       have hfz39_1 := blk_frozen HGz39 1
       clear HGz39 hgz39
       go_wp2
       repeat (go_quiet (fail); try go_wp2)
       go_ret
       exact ⟨by first | rfl | (simp [errW_none, errW_some] <;> rfl) | (simp [*, errW_none, errW_some] <;> rfl) | (simp [errW_none, errW_some, Go.Proofs.YtmocooihkobdjaaDoor.listNe]; done), by repeat (first | (with_reducible first | exact HI0.out | apply IsS135.alloc | apply IsS135.drewN | apply IsS135.drew | apply IsS135.set_0 | apply IsS135.set_1) | exact HI0.out), by repeat (first | (with_reducible first | exact HB.out | apply below_alloc | apply pw_below_drewN | apply below_drew1 | refine below_set ?_ (IsS135.ge HI0.out)) | exact HB.out), by repeat (first | (with_reducible first | exact HK.out | apply KeepBut.set_ | apply keep_drewN | apply keep_drew | apply keep_alloc) | exact HK.out)⟩
      ·rw [if_neg c38] at H
       exact absurd H (by simp)
     ·rw [if_neg c37] at H
      exact absurd H (by simp)
    ·rw [if_neg c36] at H
     exact absurd H (by simp)
end Go.Proofs.YtmocooihkobdjaaDoor.T
end
section
namespace Go.Proofs.YtmocooihkobdjaaDoor.T
open Go.RowKit Go.Proofs.YtmocooihkobdjaaDoorW.PrintWords Go.Proofs.YtmocooihkobdjaaDoorW.PrintLast Go.Proofs.YtmocooihkobdjaaDoorW.PrintMore
attribute [local go_sem] max2_int min2_int max_two min_two max_three min_three max_four min_four
set_option linter.unusedVariables false
set_option linter.unusedSimpArgs false
def opOf (m : ByteArray) : Int := if m.toList = [60, 60] then 1 else if m.toList = [60, 61] then 2 else if m.toList = [61] then 3 else if m.toList = [62, 61] then 4 else if m.toList = [62, 62] then 5 else 0
def opTo (m : ByteArray) (z : Int) : Int := if opOf m ≤ z then opOf m else 0
theorem opOf_bd (m : ByteArray) : 0 ≤ opOf m ∧ opOf m ≤ 5 := by
  unfold opOf
  repeat' split
  all_goals omega
theorem opIdxR0 (w : World) : (Instr.index 106 (.agg #[.int .i64 1, .string ⟨#[60, 60]⟩, .int .i64 2, .string ⟨#[60, 61]⟩, .int .i64 3, .string ⟨#[61]⟩, .int .i64 4, .string ⟨#[62, 61]⟩, .int .i64 5, .string ⟨#[62, 62]⟩]) (.int .i64 0)).run Tryd.prog w = .ok (.agg #[.int .i64 1, .string ⟨#[60, 60]⟩]) w := by kernel_rfl
theorem opIdxR1 (w : World) : (Instr.index 106 (.agg #[.int .i64 1, .string ⟨#[60, 60]⟩, .int .i64 2, .string ⟨#[60, 61]⟩, .int .i64 3, .string ⟨#[61]⟩, .int .i64 4, .string ⟨#[62, 61]⟩, .int .i64 5, .string ⟨#[62, 62]⟩]) (.int .i64 1)).run Tryd.prog w = .ok (.agg #[.int .i64 2, .string ⟨#[60, 61]⟩]) w := by kernel_rfl
theorem opIdxR2 (w : World) : (Instr.index 106 (.agg #[.int .i64 1, .string ⟨#[60, 60]⟩, .int .i64 2, .string ⟨#[60, 61]⟩, .int .i64 3, .string ⟨#[61]⟩, .int .i64 4, .string ⟨#[62, 61]⟩, .int .i64 5, .string ⟨#[62, 62]⟩]) (.int .i64 2)).run Tryd.prog w = .ok (.agg #[.int .i64 3, .string ⟨#[61]⟩]) w := by kernel_rfl
theorem opIdxR3 (w : World) : (Instr.index 106 (.agg #[.int .i64 1, .string ⟨#[60, 60]⟩, .int .i64 2, .string ⟨#[60, 61]⟩, .int .i64 3, .string ⟨#[61]⟩, .int .i64 4, .string ⟨#[62, 61]⟩, .int .i64 5, .string ⟨#[62, 62]⟩]) (.int .i64 3)).run Tryd.prog w = .ok (.agg #[.int .i64 4, .string ⟨#[62, 61]⟩]) w := by kernel_rfl
theorem opIdxR4 (w : World) : (Instr.index 106 (.agg #[.int .i64 1, .string ⟨#[60, 60]⟩, .int .i64 2, .string ⟨#[60, 61]⟩, .int .i64 3, .string ⟨#[61]⟩, .int .i64 4, .string ⟨#[62, 61]⟩, .int .i64 5, .string ⟨#[62, 62]⟩]) (.int .i64 4)).run Tryd.prog w = .ok (.agg #[.int .i64 5, .string ⟨#[62, 62]⟩]) w := by kernel_rfl
theorem opOf_iff (m : ByteArray) : (opOf m = 1 ↔ m.toList = [60, 60]) ∧ (opOf m = 2 ↔ m.toList = [60, 61]) ∧ (opOf m = 3 ↔ m.toList = [61]) ∧ (opOf m = 4 ↔ m.toList = [62, 61]) ∧ (opOf m = 5 ↔ m.toList = [62, 62]) := by
  unfold opOf
  repeat' split
  all_goals simp_all
theorem opTo_zero (m : ByteArray) : opTo m 0 = 0 := by
  have := opOf_bd m
  unfold opTo
  split <;> omega
theorem opTo_five (m : ByteArray) : opTo m 5 = opOf m := if_pos (opOf_bd m).2
theorem opTo_hit (m : ByteArray) (z : Int) (h : opOf m = z) : opTo m z = z := by
  unfold opTo
  rw [if_pos (by omega), h]
theorem opTo_miss (m : ByteArray) (z : Int) (h : ¬ opOf m = z + 1) : opTo m (z + 1) = opTo m z := by
  unfold opTo
  by_cases h2 : opOf m ≤ z
  · rw [if_pos h2, if_pos (by omega)]
  · rw [if_neg h2, if_neg (by omega)]
theorem below_alloc' {w0 w : World} (h : Below w0.heap.size w0 w) (o : Obj) : Below w0.heap.size w0 (w.alloc o) := h.alloc h.size o
theorem below_setN {w0 w : World} {j : Nat} {v : Value} {b : Nat} (h : Below w0.heap.size w0 w) (hb : w0.heap.size ≤ b) : Below w0.heap.size w0 (w.setCell ⟨b, j, none⟩ v) := h.setCell hb _
def noRel (e : Int) (s : ByteArray) (a : Int) : ByteArray × Int × ByteArray × Int × ByteArray × Int := (⟨#[]⟩, 0, ⟨#[]⟩, e, s, a)
def relation_reader_relation.f (k : Nat) (s0_0 : ByteArray) (s0_1 : Int) : Option (ByteArray × Int × ByteArray × Int × ByteArray × Int) :=
  (relation_reader_run.f k s0_0 s0_1 false).bind fun x1 => if x1.1.toList = [] then some (noRel 220 x1.2.1 x1.2.2) else
  (relation_Name.f k x1.1).bind fun nm => if nm = false then some (noRel 230 x1.2.1 x1.2.2) else
  (relation_reader_pass.f k x1.2.1 x1.2.2 x1.1.size).bind fun x2 => (relation_reader_takes.f k x2.1 x2.2 40).bind fun x3 => if x3.1 = false then some (x1.1, 0, ⟨#[]⟩, 0, x3.2.1, x3.2.2) else
  (relation_reader_run.f k x3.2.1 x3.2.2 true).bind fun x4 => if opOf x4.1 = 0 then some (noRel 220 x4.2.1 x4.2.2) else
  (relation_reader_pass.f k x4.2.1 x4.2.2 x4.1.size).bind fun x5 => (relation_reader_run.f k x5.1 x5.2 false).bind fun x6 => if x6.1.toList = [] then some (noRel 220 x6.2.1 x6.2.2) else
  (version_Legal.f k x6.1).bind fun lg => if lg = false then some (noRel 200 x6.2.1 x6.2.2) else
  (relation_reader_pass.f k x6.2.1 x6.2.2 x6.1.size).bind fun x7 => (relation_reader_takes.f k x7.1 x7.2 41).bind fun x8 => if x8.1 = false then some (noRel 220 x8.2.1 x8.2.2) else some (x1.1, opOf x4.1, x6.1, 0, x8.2.1, x8.2.2)
theorem relation_reader_relation.mono : ∀ a0 a1 k, LeO (relation_reader_relation.f k a0 a1) (relation_reader_relation.f (k + 1) a0 a1) := by
  intro a0 a1 k
  unfold relation_reader_relation.f
  repeat' first
      | (with_reducible exact relation_reader_run.mono _ _ _ _)
      | (with_reducible exact relation_Name.mono _ _)
      | (with_reducible exact relation_reader_pass.mono _ _ _ _)
      | (with_reducible exact relation_reader_takes.mono _ _ _ _)
      | (with_reducible exact version_Legal.mono _ _)
      | (with_reducible exact LeO.refl _)
      | (with_reducible refine LeO.ite ?_ ?_)
      | (with_reducible refine LeO.bind ?_ (fun _ => ?_))
set_option maxHeartbeats 8000000 in
set_option maxRecDepth 1000000 in
theorem relation_reader_relation.calls (k : Nat) (g : Nat) (s0_0 : ByteArray) (s0_1 : Int) (r1 : ByteArray) (r2 : Int) (r3 : ByteArray) (r4 : Int) (r5 : ByteArray) (r6 : Int) (w0 w : World) (hI : IsS135 w0 w g s0_0 s0_1) (hB : Below w0.heap.size w0 w) (hG : GG w0) (h : relation_reader_relation.f k s0_0 s0_1 = some (r1, r2, r3, r4, r5, r6)) :
    Calls Tryd.prog 108 #[.pointer (some ⟨g, 0, none⟩)] w fun e w' => e = .returned (.tuple #[.agg #[.string r1, .int .i64 r2, .string r3], .int .i64 r4]) ∧ IsS135 w0 w' g r5 r6 ∧ Below w0.heap.size w0 w' ∧ KeepBut w w' g none := by
  unfold relation_reader_relation.f at h
  have hu23 := Tryd.underlying46
  have hu65 := Tryd.underlying105
  have hlt := hI.lt
  have Hlt := Lib.hid hlt
  have Hge := Lib.hid hI.ge
  have HI0 := Lib.hid (hI.alloc (.cells #[.string ⟨#[]⟩, .int .i64 0, .string ⟨#[]⟩] 46 (0, 0)))
  have HB0 := Lib.hid (below_alloc' hB (.cells #[.string ⟨#[]⟩, .int .i64 0, .string ⟨#[]⟩] 46 (0, 0)))
  have HK0 := Lib.hid (keep_alloc (KeepBut.refl w g none) (.cells #[.string ⟨#[]⟩, .int .i64 0, .string ⟨#[]⟩] 46 (0, 0)))
  have HR0 := Lib.hid (blk_new w (.cells #[.string ⟨#[]⟩, .int .i64 0, .string ⟨#[]⟩] 46 (0, 0)))
  have HG := Lib.hid hG
  clear hI hB hG hlt
  have Hbw : Hid (w0.heap.size ≤ w.heap.size) := Nat.le_of_lt (Nat.lt_of_le_of_lt Hge.out Hlt.out)
  replace h := Option.bind_eq_some_iff.mp h
  obtain ⟨⟨v1, s1, a1⟩, h1, h⟩ := h
  have H1 := Lib.hid h1; clear h1
  have H := Lib.hid h; clear h
  go_enter Tryd.func108, Tryd.ntmps108
  go_wp2_with fail
  refine (relation_reader_run.calls _ _ _ _ _ _ _ _ w0 _ HI0.out HB0.out H1.out).mono ?_
  rintro e w1 ⟨rfl, hI, hB, hK⟩
  have HI1 := Lib.hid hI; have HB1 := Lib.hid hB; have HK1 := Lib.hid (KeepBut.trans HK0.out hK (.inl rfl))
  have HR1 := Lib.hid (hK.blk HR0.out (Nat.ne_of_gt Hlt.out) (by simp))
  clear hI hB hK
  by_cases e1 : v1.toList = []
  · have h := H.out
    rw [if_pos e1] at h
    simp only [Option.some.injEq, noRel, Prod.mk.injEq] at h
    obtain ⟨rfl, rfl, rfl, rfl, rfl, rfl⟩ := h
    have e1b : v1.toList.isEmpty = true := by rw [e1]; rfl
    have rc0 := blk_cell HR1.out 0
    have rc1 := blk_cell HR1.out 1
    have rc2 := blk_cell HR1.out 2
    have rz0 := blk_frozen HR1.out 0
    have rz1 := blk_frozen HR1.out 1
    have rz2 := blk_frozen HR1.out 2
    simp only [List.getElem?_toArray, List.getElem?_cons_succ, List.getElem?_cons_zero] at rc0 rc1 rc2
    go_wp2_with fail
    refine bodyPost_ret (results_ct rfl _ _ w.heap.size 46 #[.string ⟨#[]⟩, .int .i64 0, .string ⟨#[]⟩] (0, 0) _ rfl (blk_put (blk_put (blk_put HR1.out 0 _ rfl) 1 _ rfl) 2 _ rfl) Tryd.underlying46 rfl rfl) rfl ⟨rfl, (((HI1.out.far (Nat.ne_of_lt Hlt.out) _).far (Nat.ne_of_lt Hlt.out) _).far (Nat.ne_of_lt Hlt.out) _), below_setN (below_setN (below_setN HB1.out Hbw.out) Hbw.out) Hbw.out, keep_far (keep_far (keep_far HK1.out (Nat.le_refl _) _) (Nat.le_refl _) _) (Nat.le_refl _) _⟩
  have h := H.out
  clear H
  rw [if_neg e1] at h
  have e1b : v1.toList.isEmpty = false := by simpa using e1
  clear e1
  replace h := Option.bind_eq_some_iff.mp h
  obtain ⟨nm, h2, h⟩ := h
  have H2 := Lib.hid h2; clear h2
  have H := Lib.hid h; clear h
  go_wp2_with fail
  refine (relation_Name.calls _ _ _ _ H2.out).mono ?_
  rintro e w2 ⟨rfl, hd⟩
  have Hd := Lib.hid hd; clear hd
  clear e1b
  have HI2 : Hid (IsS135 w0 w2 g s1 a1) := by obtain ⟨nd, rfl⟩ := Hd.out.out; exact HI1.out.drewN nd
  have HB2 : Hid (Below w0.heap.size w0 w2) := by obtain ⟨nd, rfl⟩ := Hd.out.out; exact pw_below_drewN HB1.out nd
  have HK2 : Hid (KeepBut w w2 g none) := by obtain ⟨nd, rfl⟩ := Hd.out.out; exact keep_drewN HK1.out nd
  have HR2 : Hid (w2.heap[w.heap.size]? = some (.cells #[.string ⟨#[]⟩, .int .i64 0, .string ⟨#[]⟩] 46 (0, 0))) := by obtain ⟨nd, rfl⟩ := Hd.out.out; exact blk_drewN HR1.out nd
  cases nm with
  | false =>
    have h := H.out
    rw [if_pos rfl] at h
    simp only [Option.some.injEq, noRel, Prod.mk.injEq] at h
    obtain ⟨rfl, rfl, rfl, rfl, rfl, rfl⟩ := h
    have rc0 := blk_cell HR2.out 0
    have rc1 := blk_cell HR2.out 1
    have rc2 := blk_cell HR2.out 2
    have rz0 := blk_frozen HR2.out 0
    have rz1 := blk_frozen HR2.out 1
    have rz2 := blk_frozen HR2.out 2
    simp only [List.getElem?_toArray, List.getElem?_cons_succ, List.getElem?_cons_zero] at rc0 rc1 rc2
    go_wp2_with fail
    refine bodyPost_ret (results_ct rfl _ _ w.heap.size 46 #[.string ⟨#[]⟩, .int .i64 0, .string ⟨#[]⟩] (0, 0) _ rfl (blk_put (blk_put (blk_put HR2.out 0 _ rfl) 1 _ rfl) 2 _ rfl) Tryd.underlying46 rfl rfl) rfl ⟨rfl, (((HI2.out.far (Nat.ne_of_lt Hlt.out) _).far (Nat.ne_of_lt Hlt.out) _).far (Nat.ne_of_lt Hlt.out) _), below_setN (below_setN (below_setN HB2.out Hbw.out) Hbw.out) Hbw.out, keep_far (keep_far (keep_far HK2.out (Nat.le_refl _) _) (Nat.le_refl _) _) (Nat.le_refl _) _⟩
  | true =>
    have h := H.out
    clear H
    rw [if_neg (by simp)] at h
    replace h := Option.bind_eq_some_iff.mp h
    obtain ⟨⟨s2, a2⟩, h3, h⟩ := h
    have H3 := Lib.hid h3; clear h3
    replace h := Option.bind_eq_some_iff.mp h
    obtain ⟨⟨b3, s3, a3⟩, h4, h⟩ := h
    have H4 := Lib.hid h4; clear h4
    have H := Lib.hid h; clear h
    have HW1 : Hid (w.heap.size < w2.heap.size) := blk_lt HR2.out
    have HNP : Hid (w2.heap.size ≠ g) := Nat.ne_of_gt (Nat.lt_trans Hlt.out HW1.out)
    have HNRP : Hid (w.heap.size ≠ w2.heap.size) := Nat.ne_of_lt HW1.out
    have HBP : Hid (w0.heap.size ≤ w2.heap.size) := Nat.le_trans Hbw.out (Nat.le_of_lt HW1.out)
    have HIa := Lib.hid (HI2.out.alloc (.cells #[.string v1, .int .i64 0, .string ⟨#[]⟩] 46 (0, 0))); have HBa := Lib.hid (below_alloc' HB2.out (.cells #[.string v1, .int .i64 0, .string ⟨#[]⟩] 46 (0, 0))); have HKa := Lib.hid (keep_alloc HK2.out (.cells #[.string v1, .int .i64 0, .string ⟨#[]⟩] 46 (0, 0))); have HRa := Lib.hid (blk_alloc HR2.out (.cells #[.string v1, .int .i64 0, .string ⟨#[]⟩] 46 (0, 0))); have HPa := Lib.hid (blk_new w2 (.cells #[.string v1, .int .i64 0, .string ⟨#[]⟩] 46 (0, 0)))
    go_wp2_with fail
    refine (relation_reader_pass.calls _ _ _ _ _ _ _ w0 _ HIa.out HBa.out H3.out).mono ?_
    rintro e wb ⟨rfl, hI, hB, hK⟩
    have HIb := Lib.hid hI; have HBb := Lib.hid hB; have HKb := Lib.hid (KeepBut.trans HKa.out hK (.inl rfl))
    have HRb := Lib.hid (hK.blk HRa.out (Nat.ne_of_gt Hlt.out) (by simp))
    have HPb := Lib.hid (hK.blk HPa.out HNP.out (by simp))
    clear hI hB hK
    go_wp2_with fail
    refine (relation_reader_takes.calls _ _ _ _ _ _ _ _ w0 _ HIb.out HBb.out H4.out).mono ?_
    rintro e wc ⟨rfl, hI, hB, hK⟩
    have HIc := Lib.hid hI; have HBc := Lib.hid hB; have HKc := Lib.hid (KeepBut.trans HKb.out hK (.inl rfl))
    have HRc := Lib.hid (hK.blk HRb.out (Nat.ne_of_gt Hlt.out) (by simp))
    have HPc := Lib.hid (hK.blk HPb.out HNP.out (by simp))
    clear hI hB hK
    cases b3 with
    | false =>
      have h := H.out
      rw [if_pos rfl] at h
      simp only [Option.some.injEq, Prod.mk.injEq] at h
      obtain ⟨rfl, rfl, rfl, rfl, rfl, rfl⟩ := h
      have rc0 := blk_cell HRc.out 0
      have rc1 := blk_cell HRc.out 1
      have rc2 := blk_cell HRc.out 2
      have rz0 := blk_frozen HRc.out 0
      have rz1 := blk_frozen HRc.out 1
      have rz2 := blk_frozen HRc.out 2
      simp only [List.getElem?_toArray, List.getElem?_cons_succ, List.getElem?_cons_zero] at rc0 rc1 rc2
      have pc0 := blk_cell HPc.out 0
      have pc1 := blk_cell HPc.out 1
      have pc2 := blk_cell HPc.out 2
      simp only [List.getElem?_toArray, List.getElem?_cons_succ, List.getElem?_cons_zero] at pc0 pc1 pc2
      go_wp2_with fail
      refine bodyPost_ret (results_ct rfl _ _ w.heap.size 46 #[.string v1, .int .i64 0, .string ⟨#[]⟩] (0, 0) _ rfl (blk_put (blk_put (blk_put HRc.out 0 _ rfl) 1 _ rfl) 2 _ rfl) Tryd.underlying46 rfl rfl) rfl ⟨rfl, (((HIc.out.far (Nat.ne_of_lt Hlt.out) _).far (Nat.ne_of_lt Hlt.out) _).far (Nat.ne_of_lt Hlt.out) _), below_setN (below_setN (below_setN HBc.out Hbw.out) Hbw.out) Hbw.out, keep_far (keep_far (keep_far HKc.out (Nat.le_refl _) _) (Nat.le_refl _) _) (Nat.le_refl _) _⟩
    | true =>
      have h := H.out
      clear H
      rw [if_neg (by simp)] at h
      replace h := Option.bind_eq_some_iff.mp h
      obtain ⟨⟨m4, s4, a4⟩, h5, h⟩ := h
      have H5 := Lib.hid h5; clear h5
      have H := Lib.hid h; clear h
      go_wp2_with fail
      refine (relation_reader_run.calls _ _ _ _ _ _ _ _ w0 _ HIc.out HBc.out H5.out).mono ?_
      rintro e wd ⟨rfl, hI, hB, hK⟩
      have HId := Lib.hid hI; have HBd := Lib.hid hB; have HKd := Lib.hid (KeepBut.trans HKc.out hK (.inl rfl))
      have HRd := Lib.hid (hK.blk HRc.out (Nat.ne_of_gt Hlt.out) (by simp))
      have HPd := Lib.hid (hK.blk HPc.out HNP.out (by simp))
      clear hI hB hK
      have HGd := Lib.hid (GG.below HG.out HBd.out)
      obtain ⟨tg, fg, hG0⟩ := HGd.out.ops
      have HG0 := Lib.hid hG0; clear hG0
      have i0 := opIdxR0; have i1 := opIdxR1; have i2 := opIdxR2; have i3 := opIdxR3; have i4 := opIdxR4
      go_wp2_with (refine wpList_load_row rfl 106 _ rfl 0 rfl tg _ fg _ HG0.out Tryd.underlying106 rfl (by kernel_rfl) ?_; unfold opCells)
      go_loopw [32] (fun v wr => ∃ z : Int, 0 ≤ z ∧ z ≤ 5 ∧ v = .int .i64 z ∧ Hid (IsS135 w0 wr g s4 a4) ∧ Hid (Below w0.heap.size w0 wr) ∧ Hid (KeepBut w wr g none) ∧ Hid (wr.heap[w.heap.size]? = some (.cells #[.string ⟨#[]⟩, .int .i64 0, .string ⟨#[]⟩] 46 (0, 0))) ∧ Hid (wr.heap[w2.heap.size]? = some (.cells #[.string v1, .int .i64 (opTo m4 z), .string ⟨#[]⟩] 46 (0, 0)))) (fun v _ => (5 - intOf v).toNat)
      case atStart => exact ⟨0, by omega, by omega, rfl, HId.out, HBd.out, HKd.out, HRd.out, by rw [opTo_zero]; exact HPd.out⟩
      case round =>
        obtain ⟨z, z0, z5, rfl, hI, hB, hK, hR, hP⟩ := hrel
        have HIe := Lib.hid hI.out; have HBe := Lib.hid hB.out; have HKe := Lib.hid hK.out; have HRe := Lib.hid hR.out; have HPe := Lib.hid hP.out
        clear hI hB hK hR hP
        have Hz : z = 0 ∨ z = 1 ∨ z = 2 ∨ z = 3 ∨ z = 4 ∨ z = 5 := by omega
        rcases Hz with rfl | rfl | rfl | rfl | rfl | rfl
        case inl =>
          by_cases he : opOf m4 = 1
          · have hl := (opOf_iff m4).1.1 he
            have hb1 : (([60, 60] : List UInt8) == m4.toList) = true := by rw [hl]; rfl
            have hpc : ∀ o, (wr.alloc o).cell? ⟨w2.heap.size, 1, none⟩ = some (.int .i64 (opTo m4 0)) := fun o => blk_cell (blk_alloc HPe.out o) 1
            have hpz : ∀ o, (wr.alloc o).frozen? ⟨w2.heap.size, 1, none⟩ = false := fun o => blk_frozen (blk_alloc HPe.out o) 1
            have Het := Lib.hid (opTo_hit m4 1 he)
            clear hl he
            go_wp2_with fail
            go_roundw
            case rel => exact ⟨1, by omega, by omega, rfl, (HIe.out.alloc _).far (Ne.symm HNP.out) _, below_setN (below_alloc' HBe.out _) HBP.out, keep_far (keep_alloc HKe.out _) (Nat.le_of_lt HW1.out) _, blk_far (blk_alloc HRe.out _) HNRP.out _, by rw [Het.out]; exact blk_put (blk_alloc HPe.out _) 1 _ rfl⟩
            case measure => simp [intOf]
          · have hl : ¬ m4.toList = [60, 60] := fun q => he ((opOf_iff m4).1.2 q)
            have hb1 : (([60, 60] : List UInt8) == m4.toList) = false := by rw [beq_eq_false_iff_ne]; exact fun q => hl q.symm
            have Het : Hid (opTo m4 1 = opTo m4 0) := opTo_miss m4 0 he
            clear hl he
            go_wp2_with fail
            go_roundw
            case rel => exact ⟨1, by omega, by omega, rfl, HIe.out.alloc _, below_alloc' HBe.out _, keep_alloc HKe.out _, blk_alloc HRe.out _, by rw [Het.out]; exact blk_alloc HPe.out _⟩
            case measure => simp [intOf]
        case inr.inl =>
          by_cases he : opOf m4 = 2
          · have hl := (opOf_iff m4).2.1.1 he
            have hb1 : (([60, 61] : List UInt8) == m4.toList) = true := by rw [hl]; rfl
            have hpc : ∀ o, (wr.alloc o).cell? ⟨w2.heap.size, 1, none⟩ = some (.int .i64 (opTo m4 1)) := fun o => blk_cell (blk_alloc HPe.out o) 1
            have hpz : ∀ o, (wr.alloc o).frozen? ⟨w2.heap.size, 1, none⟩ = false := fun o => blk_frozen (blk_alloc HPe.out o) 1
            have Het := Lib.hid (opTo_hit m4 2 he)
            clear hl he
            go_wp2_with fail
            go_roundw
            case rel => exact ⟨2, by omega, by omega, rfl, (HIe.out.alloc _).far (Ne.symm HNP.out) _, below_setN (below_alloc' HBe.out _) HBP.out, keep_far (keep_alloc HKe.out _) (Nat.le_of_lt HW1.out) _, blk_far (blk_alloc HRe.out _) HNRP.out _, by rw [Het.out]; exact blk_put (blk_alloc HPe.out _) 1 _ rfl⟩
            case measure => simp [intOf]
          · have hl : ¬ m4.toList = [60, 61] := fun q => he ((opOf_iff m4).2.1.2 q)
            have hb1 : (([60, 61] : List UInt8) == m4.toList) = false := by rw [beq_eq_false_iff_ne]; exact fun q => hl q.symm
            have Het : Hid (opTo m4 2 = opTo m4 1) := opTo_miss m4 1 he
            clear hl he
            go_wp2_with fail
            go_roundw
            case rel => exact ⟨2, by omega, by omega, rfl, HIe.out.alloc _, below_alloc' HBe.out _, keep_alloc HKe.out _, blk_alloc HRe.out _, by rw [Het.out]; exact blk_alloc HPe.out _⟩
            case measure => simp [intOf]
        case inr.inr.inl =>
          by_cases he : opOf m4 = 3
          · have hl := (opOf_iff m4).2.2.1.1 he
            have hb1 : (([61] : List UInt8) == m4.toList) = true := by rw [hl]; rfl
            have hpc : ∀ o, (wr.alloc o).cell? ⟨w2.heap.size, 1, none⟩ = some (.int .i64 (opTo m4 2)) := fun o => blk_cell (blk_alloc HPe.out o) 1
            have hpz : ∀ o, (wr.alloc o).frozen? ⟨w2.heap.size, 1, none⟩ = false := fun o => blk_frozen (blk_alloc HPe.out o) 1
            have Het := Lib.hid (opTo_hit m4 3 he)
            clear hl he
            go_wp2_with fail
            go_roundw
            case rel => exact ⟨3, by omega, by omega, rfl, (HIe.out.alloc _).far (Ne.symm HNP.out) _, below_setN (below_alloc' HBe.out _) HBP.out, keep_far (keep_alloc HKe.out _) (Nat.le_of_lt HW1.out) _, blk_far (blk_alloc HRe.out _) HNRP.out _, by rw [Het.out]; exact blk_put (blk_alloc HPe.out _) 1 _ rfl⟩
            case measure => simp [intOf]
          · have hl : ¬ m4.toList = [61] := fun q => he ((opOf_iff m4).2.2.1.2 q)
            have hb1 : (([61] : List UInt8) == m4.toList) = false := by rw [beq_eq_false_iff_ne]; exact fun q => hl q.symm
            have Het : Hid (opTo m4 3 = opTo m4 2) := opTo_miss m4 2 he
            clear hl he
            go_wp2_with fail
            go_roundw
            case rel => exact ⟨3, by omega, by omega, rfl, HIe.out.alloc _, below_alloc' HBe.out _, keep_alloc HKe.out _, blk_alloc HRe.out _, by rw [Het.out]; exact blk_alloc HPe.out _⟩
            case measure => simp [intOf]
        case inr.inr.inr.inl =>
          by_cases he : opOf m4 = 4
          · have hl := (opOf_iff m4).2.2.2.1.1 he
            have hb1 : (([62, 61] : List UInt8) == m4.toList) = true := by rw [hl]; rfl
            have hpc : ∀ o, (wr.alloc o).cell? ⟨w2.heap.size, 1, none⟩ = some (.int .i64 (opTo m4 3)) := fun o => blk_cell (blk_alloc HPe.out o) 1
            have hpz : ∀ o, (wr.alloc o).frozen? ⟨w2.heap.size, 1, none⟩ = false := fun o => blk_frozen (blk_alloc HPe.out o) 1
            have Het := Lib.hid (opTo_hit m4 4 he)
            clear hl he
            go_wp2_with fail
            go_roundw
            case rel => exact ⟨4, by omega, by omega, rfl, (HIe.out.alloc _).far (Ne.symm HNP.out) _, below_setN (below_alloc' HBe.out _) HBP.out, keep_far (keep_alloc HKe.out _) (Nat.le_of_lt HW1.out) _, blk_far (blk_alloc HRe.out _) HNRP.out _, by rw [Het.out]; exact blk_put (blk_alloc HPe.out _) 1 _ rfl⟩
            case measure => simp [intOf]
          · have hl : ¬ m4.toList = [62, 61] := fun q => he ((opOf_iff m4).2.2.2.1.2 q)
            have hb1 : (([62, 61] : List UInt8) == m4.toList) = false := by rw [beq_eq_false_iff_ne]; exact fun q => hl q.symm
            have Het : Hid (opTo m4 4 = opTo m4 3) := opTo_miss m4 3 he
            clear hl he
            go_wp2_with fail
            go_roundw
            case rel => exact ⟨4, by omega, by omega, rfl, HIe.out.alloc _, below_alloc' HBe.out _, keep_alloc HKe.out _, blk_alloc HRe.out _, by rw [Het.out]; exact blk_alloc HPe.out _⟩
            case measure => simp [intOf]
        case inr.inr.inr.inr.inl =>
          by_cases he : opOf m4 = 5
          · have hl := (opOf_iff m4).2.2.2.2.1 he
            have hb1 : (([62, 62] : List UInt8) == m4.toList) = true := by rw [hl]; rfl
            have hpc : ∀ o, (wr.alloc o).cell? ⟨w2.heap.size, 1, none⟩ = some (.int .i64 (opTo m4 4)) := fun o => blk_cell (blk_alloc HPe.out o) 1
            have hpz : ∀ o, (wr.alloc o).frozen? ⟨w2.heap.size, 1, none⟩ = false := fun o => blk_frozen (blk_alloc HPe.out o) 1
            have Het := Lib.hid (opTo_hit m4 5 he)
            clear hl he
            go_wp2_with fail
            go_roundw
            case rel => exact ⟨5, by omega, by omega, rfl, (HIe.out.alloc _).far (Ne.symm HNP.out) _, below_setN (below_alloc' HBe.out _) HBP.out, keep_far (keep_alloc HKe.out _) (Nat.le_of_lt HW1.out) _, blk_far (blk_alloc HRe.out _) HNRP.out _, by rw [Het.out]; exact blk_put (blk_alloc HPe.out _) 1 _ rfl⟩
            case measure => simp [intOf]
          · have hl : ¬ m4.toList = [62, 62] := fun q => he ((opOf_iff m4).2.2.2.2.2 q)
            have hb1 : (([62, 62] : List UInt8) == m4.toList) = false := by rw [beq_eq_false_iff_ne]; exact fun q => hl q.symm
            have Het : Hid (opTo m4 5 = opTo m4 4) := opTo_miss m4 4 he
            clear hl he
            go_wp2_with fail
            go_roundw
            case rel => exact ⟨5, by omega, by omega, rfl, HIe.out.alloc _, below_alloc' HBe.out _, keep_alloc HKe.out _, blk_alloc HRe.out _, by rw [Het.out]; exact blk_alloc HPe.out _⟩
            case measure => simp [intOf]
        case inr.inr.inr.inr.inr =>
          have hd5 : decide ((5 : Int) < 5) = false := by decide
          obtain ⟨o4, Ho4⟩ : ∃ o, Hid (opOf m4 = o) := ⟨_, rfl⟩
          have HPf := Lib.hid (Ho4.out ▸ opTo_five m4 ▸ HPe.out)
          clear HPe
          have pc0 := blk_cell HPf.out 0
          have pc1 := blk_cell HPf.out 1
          have pc2 := blk_cell HPf.out 2
          simp only [List.getElem?_toArray, List.getElem?_cons_succ, List.getElem?_cons_zero] at pc0 pc1 pc2
          cases ho : decide (o4 = 0) with
          | true =>
            have ho1 := of_decide_eq_true ho
            have h := H.out
            rw [if_pos (Ho4.out.trans ho1)] at h
            simp only [Option.some.injEq, noRel, Prod.mk.injEq] at h
            obtain ⟨rfl, rfl, rfl, rfl, rfl, rfl⟩ := h
            have hob : (o4 == 0) = true := beq_iff_eq.2 ho1
            clear ho ho1 H
            have rc0 := blk_cell HRe.out 0
            have rc1 := blk_cell HRe.out 1
            have rc2 := blk_cell HRe.out 2
            have rz0 := blk_frozen HRe.out 0
            have rz1 := blk_frozen HRe.out 1
            have rz2 := blk_frozen HRe.out 2
            simp only [List.getElem?_toArray, List.getElem?_cons_succ, List.getElem?_cons_zero] at rc0 rc1 rc2
            go_wp2_with fail
            refine bodyPost_ret (results_ct rfl _ _ w.heap.size 46 #[.string ⟨#[]⟩, .int .i64 0, .string ⟨#[]⟩] (0, 0) _ rfl (blk_put (blk_put (blk_put HRe.out 0 _ rfl) 1 _ rfl) 2 _ rfl) Tryd.underlying46 rfl rfl) rfl ⟨rfl, (((HIe.out.far (Nat.ne_of_lt Hlt.out) _).far (Nat.ne_of_lt Hlt.out) _).far (Nat.ne_of_lt Hlt.out) _), below_setN (below_setN (below_setN HBe.out Hbw.out) Hbw.out) Hbw.out, keep_far (keep_far (keep_far HKe.out (Nat.le_refl _) _) (Nat.le_refl _) _) (Nat.le_refl _) _⟩
          | false =>
            have ho1 := of_decide_eq_false ho
            have h := H.out
            clear H
            rw [if_neg (fun q => ho1 (Ho4.out.symm.trans q))] at h
            have hob : (o4 == 0) = false := beq_eq_false_iff_ne.2 ho1
            clear ho ho1
            replace h := Option.bind_eq_some_iff.mp h
            obtain ⟨⟨s5, a5⟩, h6, h⟩ := h
            have H6 := Lib.hid h6; clear h6
            replace h := Option.bind_eq_some_iff.mp h
            obtain ⟨⟨v6, s6, a6⟩, h7, h⟩ := h
            have H7 := Lib.hid h7; clear h7
            have H := Lib.hid h; clear h
            go_wp2_with fail
            clear pc0 pc1 pc2 hob
            have HRf := HRe; have HIf := HIe; have HBf := HBe; have HKf := HKe
            refine (relation_reader_pass.calls _ _ _ _ _ _ _ w0 _ HIf.out HBf.out H6.out).mono ?_
            rintro e wh ⟨rfl, hI, hB, hK⟩
            have HIh := Lib.hid hI; have HBh := Lib.hid hB; have HKh := Lib.hid (KeepBut.trans HKf.out hK (.inl rfl))
            have HRh := Lib.hid (hK.blk HRf.out (Nat.ne_of_gt Hlt.out) (by simp))
            have HPh := Lib.hid (hK.blk HPf.out HNP.out (by simp))
            clear hI hB hK
            go_wp2_with fail
            refine (relation_reader_run.calls _ _ _ _ _ _ _ _ w0 _ HIh.out HBh.out H7.out).mono ?_
            rintro e wi ⟨rfl, hI, hB, hK⟩
            have HIi := Lib.hid hI; have HBi := Lib.hid hB; have HKi := Lib.hid (KeepBut.trans HKh.out hK (.inl rfl))
            have HRi := Lib.hid (hK.blk HRh.out (Nat.ne_of_gt Hlt.out) (by simp))
            have HPi := Lib.hid (hK.blk HPh.out HNP.out (by simp))
            clear hI hB hK
            by_cases e6 : v6.toList = []
            · have h := H.out
              rw [if_pos e6] at h
              simp only [Option.some.injEq, noRel, Prod.mk.injEq] at h
              obtain ⟨rfl, rfl, rfl, rfl, rfl, rfl⟩ := h
              have e6b : v6.toList.isEmpty = true := by rw [e6]; rfl
              have rc0 := blk_cell HRi.out 0
              have rc1 := blk_cell HRi.out 1
              have rc2 := blk_cell HRi.out 2
              have rz0 := blk_frozen HRi.out 0
              have rz1 := blk_frozen HRi.out 1
              have rz2 := blk_frozen HRi.out 2
              simp only [List.getElem?_toArray, List.getElem?_cons_succ, List.getElem?_cons_zero] at rc0 rc1 rc2
              go_wp2_with fail
              refine bodyPost_ret (results_ct rfl _ _ w.heap.size 46 #[.string ⟨#[]⟩, .int .i64 0, .string ⟨#[]⟩] (0, 0) _ rfl (blk_put (blk_put (blk_put HRi.out 0 _ rfl) 1 _ rfl) 2 _ rfl) Tryd.underlying46 rfl rfl) rfl ⟨rfl, (((HIi.out.far (Nat.ne_of_lt Hlt.out) _).far (Nat.ne_of_lt Hlt.out) _).far (Nat.ne_of_lt Hlt.out) _), below_setN (below_setN (below_setN HBi.out Hbw.out) Hbw.out) Hbw.out, keep_far (keep_far (keep_far HKi.out (Nat.le_refl _) _) (Nat.le_refl _) _) (Nat.le_refl _) _⟩
            have h := H.out
            clear H
            rw [if_neg e6] at h
            have e6b : v6.toList.isEmpty = false := by simpa using e6
            clear e6
            replace h := Option.bind_eq_some_iff.mp h
            obtain ⟨lg, h8, h⟩ := h
            have H8 := Lib.hid h8; clear h8
            have H := Lib.hid h; clear h
            go_wp2_with fail
            refine (version_Legal.calls _ _ _ _ H8.out).mono ?_
            rintro e wj ⟨rfl, hb⟩
            clear e6b
            have HIj := Lib.hid (HIi.out.below hb); have HBj := Lib.hid (below_then HBi.out HBi.out.size hb); have HKj := Lib.hid (KeepBut.trans HKi.out (KeepBut.of_below hb g none) (.inl rfl)); have HRj := Lib.hid (blk_below HRi.out hb); have HPj := Lib.hid (blk_below HPi.out hb)
            clear hb
            cases lg with
            | false =>
              have h := H.out
              rw [if_pos rfl] at h
              simp only [Option.some.injEq, noRel, Prod.mk.injEq] at h
              obtain ⟨rfl, rfl, rfl, rfl, rfl, rfl⟩ := h
              have rc0 := blk_cell HRj.out 0
              have rc1 := blk_cell HRj.out 1
              have rc2 := blk_cell HRj.out 2
              have rz0 := blk_frozen HRj.out 0
              have rz1 := blk_frozen HRj.out 1
              have rz2 := blk_frozen HRj.out 2
              simp only [List.getElem?_toArray, List.getElem?_cons_succ, List.getElem?_cons_zero] at rc0 rc1 rc2
              go_wp2_with fail
              refine bodyPost_ret (results_ct rfl _ _ w.heap.size 46 #[.string ⟨#[]⟩, .int .i64 0, .string ⟨#[]⟩] (0, 0) _ rfl (blk_put (blk_put (blk_put HRj.out 0 _ rfl) 1 _ rfl) 2 _ rfl) Tryd.underlying46 rfl rfl) rfl ⟨rfl, (((HIj.out.far (Nat.ne_of_lt Hlt.out) _).far (Nat.ne_of_lt Hlt.out) _).far (Nat.ne_of_lt Hlt.out) _), below_setN (below_setN (below_setN HBj.out Hbw.out) Hbw.out) Hbw.out, keep_far (keep_far (keep_far HKj.out (Nat.le_refl _) _) (Nat.le_refl _) _) (Nat.le_refl _) _⟩
            | true =>
              have h := H.out
              clear H
              rw [if_neg (by simp)] at h
              replace h := Option.bind_eq_some_iff.mp h
              obtain ⟨⟨s7, a7⟩, h9, h⟩ := h
              have H9 := Lib.hid h9; clear h9
              replace h := Option.bind_eq_some_iff.mp h
              obtain ⟨⟨b8, s8, a8⟩, h10, h⟩ := h
              have H10 := Lib.hid h10; clear h10
              have H := Lib.hid h; clear h
              have pc0 := blk_cell HPj.out 0
              have pc1 := blk_cell HPj.out 1
              have pc2 := blk_cell HPj.out 2
              have pz0 := blk_frozen HPj.out 0
              have pz1 := blk_frozen HPj.out 1
              have pz2 := blk_frozen HPj.out 2
              simp only [List.getElem?_toArray, List.getElem?_cons_succ, List.getElem?_cons_zero] at pc0 pc1 pc2
              go_wp2_with fail
              clear pc0 pc1 pc2 pz0 pz1 pz2
              have HIk := Lib.hid (HIj.out.far (Ne.symm HNP.out) (p := ⟨w2.heap.size, 2, none⟩) (.string v6)); have HBk := Lib.hid (below_setN (j := 2) (v := .string v6) HBj.out HBP.out); have HKk := Lib.hid (keep_far (p := ⟨w2.heap.size, 2, none⟩) HKj.out (Nat.le_of_lt HW1.out) (.string v6)); have HRk := Lib.hid (blk_far (p := ⟨w2.heap.size, 2, none⟩) HRj.out HNRP.out (.string v6)); have HPk : Hid ((wj.setCell ⟨w2.heap.size, 2, none⟩ (.string v6)).heap[w2.heap.size]? = some (.cells #[.string v1, .int .i64 o4, .string v6] 46 (0, 0))) := blk_put HPj.out 2 (.string v6) rfl
              refine (relation_reader_pass.calls _ _ _ _ _ _ _ w0 _ HIk.out HBk.out H9.out).mono ?_
              rintro e wl ⟨rfl, hI, hB, hK⟩
              have HIl := Lib.hid hI; have HBl := Lib.hid hB; have HKl := Lib.hid (KeepBut.trans HKk.out hK (.inl rfl))
              have HRl := Lib.hid (hK.blk HRk.out (Nat.ne_of_gt Hlt.out) (by simp))
              have HPl := Lib.hid (hK.blk HPk.out HNP.out (by simp))
              clear hI hB hK
              go_wp2_with fail
              refine (relation_reader_takes.calls _ _ _ _ _ _ _ _ w0 _ HIl.out HBl.out H10.out).mono ?_
              rintro e wm ⟨rfl, hI, hB, hK⟩
              have HIm := Lib.hid hI; have HBm := Lib.hid hB; have HKm := Lib.hid (KeepBut.trans HKl.out hK (.inl rfl))
              have HRm := Lib.hid (hK.blk HRl.out (Nat.ne_of_gt Hlt.out) (by simp))
              have HPm := Lib.hid (hK.blk HPl.out HNP.out (by simp))
              clear hI hB hK
              cases b8 with
              | false =>
                have h := H.out
                rw [if_pos rfl] at h
                simp only [Option.some.injEq, noRel, Prod.mk.injEq] at h
                obtain ⟨rfl, rfl, rfl, rfl, rfl, rfl⟩ := h
                have rc0 := blk_cell HRm.out 0
                have rc1 := blk_cell HRm.out 1
                have rc2 := blk_cell HRm.out 2
                have rz0 := blk_frozen HRm.out 0
                have rz1 := blk_frozen HRm.out 1
                have rz2 := blk_frozen HRm.out 2
                simp only [List.getElem?_toArray, List.getElem?_cons_succ, List.getElem?_cons_zero] at rc0 rc1 rc2
                go_wp2_with fail
                refine bodyPost_ret (results_ct rfl _ _ w.heap.size 46 #[.string ⟨#[]⟩, .int .i64 0, .string ⟨#[]⟩] (0, 0) _ rfl (blk_put (blk_put (blk_put HRm.out 0 _ rfl) 1 _ rfl) 2 _ rfl) Tryd.underlying46 rfl rfl) rfl ⟨rfl, (((HIm.out.far (Nat.ne_of_lt Hlt.out) _).far (Nat.ne_of_lt Hlt.out) _).far (Nat.ne_of_lt Hlt.out) _), below_setN (below_setN (below_setN HBm.out Hbw.out) Hbw.out) Hbw.out, keep_far (keep_far (keep_far HKm.out (Nat.le_refl _) _) (Nat.le_refl _) _) (Nat.le_refl _) _⟩
              | true =>
                have h := H.out
                rw [if_neg (by simp)] at h
                simp only [Option.some.injEq, Prod.mk.injEq] at h
                obtain ⟨rfl, rfl, rfl, rfl, rfl, rfl⟩ := h
                clear H
                have rc0 := blk_cell HRm.out 0
                have rc1 := blk_cell HRm.out 1
                have rc2 := blk_cell HRm.out 2
                have rz0 := blk_frozen HRm.out 0
                have rz1 := blk_frozen HRm.out 1
                have rz2 := blk_frozen HRm.out 2
                simp only [List.getElem?_toArray, List.getElem?_cons_succ, List.getElem?_cons_zero] at rc0 rc1 rc2
                have pc0 := blk_cell HPm.out 0
                have pc1 := blk_cell HPm.out 1
                have pc2 := blk_cell HPm.out 2
                simp only [List.getElem?_toArray, List.getElem?_cons_succ, List.getElem?_cons_zero] at pc0 pc1 pc2
                go_wp2_with fail
                refine bodyPost_ret (results_ct rfl _ _ w.heap.size 46 #[.string v1, .int .i64 o4, .string v6] (0, 0) _ rfl (blk_put (blk_put (blk_put HRm.out 0 _ rfl) 1 _ rfl) 2 _ rfl) Tryd.underlying46 rfl rfl) rfl ⟨by rw [Ho4.out]; rfl, (((HIm.out.far (Nat.ne_of_lt Hlt.out) _).far (Nat.ne_of_lt Hlt.out) _).far (Nat.ne_of_lt Hlt.out) _), below_setN (below_setN (below_setN HBm.out Hbw.out) Hbw.out) Hbw.out, keep_far (keep_far (keep_far HKm.out (Nat.le_refl _) _) (Nat.le_refl _) _) (Nat.le_refl _) _⟩
end Go.Proofs.YtmocooihkobdjaaDoor.T
end
section
namespace Go.Proofs.YtmocooihkobdjaaDoor.T
open Go.RowKit Go.Proofs.YtmocooihkobdjaaDoorW.PrintWords Go.Proofs.YtmocooihkobdjaaDoorW.PrintLast Go.Proofs.YtmocooihkobdjaaDoorW.PrintMore
attribute [local go_sem] max2_int min2_int max_two min_two max_three min_three max_four min_four
set_option linter.unusedVariables false
set_option linter.unusedSimpArgs false
mutual
def relation_read.l0 : Nat → ByteArray → Bool → List (List (S46)) → Bool → ByteArray → Int → Option ((List (List (S46))) × Int × Int)
 | 0, _, _, _, _, _, _ => none
 | k + 1, x0, x1, x8, x9, x148000, x148001 => if x9 = true then (relation_read.l1 k x0 x1 x8 ([] : List (S46)) true x148000 x148001) else (if x148001 < (x0.size : Int) then (some (([] : List (List (S46))), 220, x148001)) else (some (x8, 0, 0)))
def relation_read.l1 : Nat → ByteArray → Bool → List (List (S46)) → List (S46) → Bool → ByteArray → Int → Option ((List (List (S46))) × Int × Int)
 | 0, _, _, _, _, _, _, _ => none
 | k + 1, x0, x1, x8, x10, x11, x148000, x148001 => if x11 = true then ((relation_reader_relation.f k x148000 x148001).bind fun bt156 => (if bt156.2.2.2.1 = 0 then (if x10.length < 3518437208883 then ((some (x10 ++ [(⟨bt156.1, bt156.2.1, bt156.2.2.1⟩ : S46)] : List (S46))).bind fun y163 => (if x1 = true then ((relation_reader_takes.f k bt156.2.2.2.2.1 bt156.2.2.2.2.2 124).bind fun bt166 => (relation_read.l1 k x0 x1 x8 y163 bt166.1 bt166.2.1 bt166.2.2)) else (relation_read.l1 k x0 x1 x8 y163 false bt156.2.2.2.2.1 bt156.2.2.2.2.2))) else (none)) else (some (([] : List (List (S46))), bt156.2.2.2.1, bt156.2.2.2.2.2)))) else (if x8.length < 5864062014805 then ((relation_reader_takes.f k x148000 x148001 44).bind fun bt153 => (relation_read.l0 k x0 x1 (x8 ++ [x10]) bt153.1 bt153.2.1 bt153.2.2)) else (none))
end
def relation_read.f (k : Nat) (a0 : ByteArray) (a1 : Bool) : Option ((List (List (S46))) × Int × Int) := (relation_reader_gaps.f k a0 0).bind fun bt148 => (if bt148.2 = (a0.size : Int) then (some (([] : List (List (S46))), 0, 0)) else (relation_read.l0 k a0 a1 ([] : List (List (S46))) true bt148.1 bt148.2))
theorem relation_read.mono_l : ∀ k, (∀ y0 y1 y2 y3 y4 y5, LeO (relation_read.l0 k y0 y1 y2 y3 y4 y5) (relation_read.l0 (k + 1) y0 y1 y2 y3 y4 y5)) ∧ (∀ y0 y1 y2 y3 y4 y5 y6, LeO (relation_read.l1 k y0 y1 y2 y3 y4 y5 y6) (relation_read.l1 (k + 1) y0 y1 y2 y3 y4 y5 y6))
 | 0 => ⟨fun _ _ _ _ _ _ r h => by simp [relation_read.l0] at h, fun _ _ _ _ _ _ _ r h => by simp [relation_read.l1] at h⟩
 | k + 1 => by
  obtain ⟨ih0, ih1⟩ := relation_read.mono_l k
  refine ⟨?_, ?_⟩
  ·intro y0 y1 y2 y3 y4 y5
   unfold relation_read.l0
   repeat' first
   | (with_reducible exact ih0 _ _ _ _ _ _)
   | (with_reducible exact ih1 _ _ _ _ _ _ _)
   | (with_reducible exact relation_reader_gaps.mono _ _ _)
   | (with_reducible exact relation_reader_relation.mono _ _ _)
   | (with_reducible exact relation_reader_takes.mono _ _ _ _)
   | (with_reducible exact LeO.refl _)
   | (with_reducible exact LeO.none _)
   | (with_reducible refine LeO.ite ?_ ?_)
   | (with_reducible refine LeO.bind ?_ (fun _ => ?_))
   | exact ih0 _ _ _ _ _ _
   | exact ih1 _ _ _ _ _ _ _
   | exact relation_reader_gaps.mono _ _ _
   | exact relation_reader_relation.mono _ _ _
   | exact relation_reader_takes.mono _ _ _ _
   | exact LeO.none _
   | refine LeO.ite ?_ ?_
   | refine LeO.bind ?_ (fun _ => ?_)
  ·intro y0 y1 y2 y3 y4 y5 y6
   unfold relation_read.l1
   repeat' first
   | (with_reducible exact ih0 _ _ _ _ _ _)
   | (with_reducible exact ih1 _ _ _ _ _ _ _)
   | (with_reducible exact relation_reader_gaps.mono _ _ _)
   | (with_reducible exact relation_reader_relation.mono _ _ _)
   | (with_reducible exact relation_reader_takes.mono _ _ _ _)
   | (with_reducible exact LeO.refl _)
   | (with_reducible exact LeO.none _)
   | (with_reducible refine LeO.ite ?_ ?_)
   | (with_reducible refine LeO.bind ?_ (fun _ => ?_))
   | exact ih0 _ _ _ _ _ _
   | exact ih1 _ _ _ _ _ _ _
   | exact relation_reader_gaps.mono _ _ _
   | exact relation_reader_relation.mono _ _ _
   | exact relation_reader_takes.mono _ _ _ _
   | exact LeO.none _
   | refine LeO.ite ?_ ?_
   | refine LeO.bind ?_ (fun _ => ?_)
theorem relation_read.mono : ∀ a0 a1 k, LeO (relation_read.f k a0 a1) (relation_read.f (k + 1) a0 a1) := by
 intro a0 a1 k
 obtain ⟨ih0, ih1⟩ := relation_read.mono_l k
 unfold relation_read.f
 repeat' first
   | (with_reducible exact ih0 _ _ _ _ _ _)
   | (with_reducible exact ih1 _ _ _ _ _ _ _)
   | (with_reducible exact relation_reader_gaps.mono _ _ _)
   | (with_reducible exact relation_reader_relation.mono _ _ _)
   | (with_reducible exact relation_reader_takes.mono _ _ _ _)
   | (with_reducible exact LeO.refl _)
   | (with_reducible exact LeO.none _)
   | (with_reducible refine LeO.ite ?_ ?_)
   | (with_reducible refine LeO.bind ?_ (fun _ => ?_))
   | exact ih0 _ _ _ _ _ _
   | exact ih1 _ _ _ _ _ _ _
   | exact relation_reader_gaps.mono _ _ _
   | exact relation_reader_relation.mono _ _ _
   | exact relation_reader_takes.mono _ _ _ _
   | exact LeO.none _
   | refine LeO.ite ?_ ?_
   | refine LeO.bind ?_ (fun _ => ?_)
set_option maxHeartbeats 8000000 in
set_option maxRecDepth 100000 in
theorem relation_read.calls (k : Nat) (a0 : ByteArray) (a1 : Bool) (r1 : List (List (S46))) (r2 : Int) (r3 : Int) (w : World) (hG : GG w) (h : relation_read.f k a0 a1 = some (r1, r2, r3)) :
  Calls Tryd.prog 88 #[.string a0, .bool a1] w fun e w' => ∃ v0_ : Value, e = .returned (.tuple #[v0_, .int .i64 r2, .int .i64 r3]) ∧ Kd.S (Kd.slice 46 k46) 23 w' w.heap.size (fun _ => True) v0_ r1 ∧ Below w.heap.size w w' := by
 have hu135 := Tryd.underlying135
 have hu46 := Tryd.underlying46
 have HB := Aside0.mk (Below.refl w.heap.size w)
 have HG := Aside0.mk hG
 clear hG
 have H : ((relation_reader_gaps.f k a0 0).bind fun bt148 => (if bt148.2 = (a0.size : Int) then (some (([] : List (List (S46))), 0, 0)) else (relation_read.l0 k a0 a1 ([] : List (List (S46))) true bt148.1 bt148.2))) = some (r1, r2, r3) := h
 clear h
 replace H := Option.bind_eq_some_iff.mp H
 obtain ⟨⟨t148, t149⟩, A30, H⟩ := H
 replace H : (if t149 = (a0.size : Int) then (some (([] : List (List (S46))), 0, 0)) else (relation_read.l0 k a0 a1 ([] : List (List (S46))) true t148 t149)) = some (r1, r2, r3) := H
 have A3 := Aside0.mk A30
 clear A30
 by_cases c4 : t149 = (a0.size : Int)
 ·rw [if_pos c4] at H
  have c4b0 : (t149 == (a0.size : Int)) = true := beq_iff_eq.mpr c4
  have c4b1 : (t149 != (a0.size : Int)) = false := bne_eq_false_iff_eq.mpr c4
  clear c4
  simp only [Option.some.injEq, Prod.mk.injEq] at H
  obtain ⟨rfl, rfl, rfl⟩ := H
  go_enter Tryd.func88, Tryd.ntmps88
  go_wp2_with (first | ((with_reducible refine gate_dst (N := 16) rfl ?_); refine box_event ?hg (N := 16) ?hd (cs := #[.string a0, .int .i64 0]) (t := 135) ?hr ?_; (case hd => rfl); (case hg => rfl); (case hr => first | (go_simp; done) | (go_simp; rfl)); intro gb147 hg w5 hbox hb; have n0_ := Aside0.mk (below_step (W0 HB.out) hb); have n1_ := Aside0.mk ((⟨hbox, (by rw [hg]; exact (below_size (W0 HB.out)))⟩ : IsS135 w w5 gb147 a0 0)); clear HB; have HB := n0_; have HI147 := n1_; clear n0_ n1_; clear hb hbox hg) | (go_at_call 107; (with_reducible refine (relation_reader_gaps.calls k gb147 a0 0 t148 t149 w _ ?side1 ?side2 A3.out).mono ?_); (case side1 => repeat (first | (with_reducible first | exact HI147.out | apply IsS135.alloc | apply IsS135.drewN | apply IsS135.drew | apply IsS135.set_0 | apply IsS135.set_1) | exact HI147.out)); (case side2 => repeat (first | (with_reducible first | exact HB.out | apply below_alloc | apply pw_below_drewN | apply below_drew1 | refine below_set ?_ (IsS135.ge HI147.out)) | exact HB.out)); rintro e w6 ⟨rfl, hi, hb, hk⟩; have n0_ := Aside0.mk (hb); have n1_ := Aside0.mk (hi); clear HB; clear HI147; have HB := n0_; have HI147 := n1_; clear n0_ n1_; (try clear hb); (try clear hb2); (try clear hk); (try clear hi); obtain ⟨HGz7, hgz7⟩ := HI147.out; have hcz7_0 := cellS135_0 HGz7; have hcz7_1 := cellS135_1 HGz7; have hfz7_0 := blk_frozen HGz7 0; have hfz7_1 := blk_frozen HGz7 1; clear HGz7 hgz7))
  go_ret3
  exact ⟨_, by first | rfl | (simp [errW_none, errW_some] <;> rfl) | (simp [*, errW_none, errW_some] <;> rfl) | (simp [errW_none, errW_some, Go.Proofs.YtmocooihkobdjaaDoor.listNe]; done), by first | exact Kd.S_nil _ _ _ _ _ | exact Kd.N_nil _ _ _ _ _ | exact Kd.V_nil _ _ _ _ _ | exact Kd.Q_nil _ _ _ _ _ | exact Kd.R_nil _ _ _ _ _, by repeat (first | (with_reducible first | exact HB.out | apply below_alloc | apply pw_below_drewN | apply below_drew1 | refine below_set ?_ (IsS135.ge HI147.out)) | exact HB.out)⟩
 ·rw [if_neg c4] at H
  have c4b0 : (t149 == (a0.size : Int)) = false := beq_eq_false_iff_ne.mpr c4
  have c4b1 : (t149 != (a0.size : Int)) = true := bne_iff_ne.mpr c4
  have H' := Aside0.mk H
  clear H
  go_enter Tryd.func88, Tryd.ntmps88
  go_wp2_with (first | ((with_reducible refine gate_dst (N := 16) rfl ?_); refine box_event ?hg (N := 16) ?hd (cs := #[.string a0, .int .i64 0]) (t := 135) ?hr ?_; (case hd => rfl); (case hg => rfl); (case hr => first | (go_simp; done) | (go_simp; rfl)); intro gb147 hg w8 hbox hb; have n0_ := Aside0.mk (below_step (W0 HB.out) hb); have n1_ := Aside0.mk ((⟨hbox, (by rw [hg]; exact (below_size (W0 HB.out)))⟩ : IsS135 w w8 gb147 a0 0)); clear HB; have HB := n0_; have HI147 := n1_; clear n0_ n1_; clear hb hbox hg) | (go_at_call 107; (with_reducible refine (relation_reader_gaps.calls k gb147 a0 0 t148 t149 w _ ?side1 ?side2 A3.out).mono ?_); (case side1 => repeat (first | (with_reducible first | exact HI147.out | apply IsS135.alloc | apply IsS135.drewN | apply IsS135.drew | apply IsS135.set_0 | apply IsS135.set_1) | exact HI147.out)); (case side2 => repeat (first | (with_reducible first | exact HB.out | apply below_alloc | apply pw_below_drewN | apply below_drew1 | refine below_set ?_ (IsS135.ge HI147.out)) | exact HB.out)); rintro e w9 ⟨rfl, hi, hb, hk⟩; have n0_ := Aside0.mk (hb); have n1_ := Aside0.mk (hi); clear HB; clear HI147; have HB := n0_; have HI147 := n1_; clear n0_ n1_; (try clear hb); (try clear hb2); (try clear hk); (try clear hi); obtain ⟨HGz10, hgz10⟩ := HI147.out; have hcz10_0 := cellS135_0 HGz10; have hcz10_1 := cellS135_1 HGz10; have hfz10_0 := blk_frozen HGz10 0; have hfz10_1 := blk_frozen HGz10 1; clear HGz10 hgz10))
  go_loopg [8, 9] k (fun kq v8 v9 w' => ∃ (x8_1 : List (List (S46))) (x9_1 : Bool) (x148000_1 : ByteArray) (x148001_1 : Int), v9 = .bool x9_1 ∧ Aside0 (relation_read.l0 kq a0 a1 x8_1 x9_1 x148000_1 x148001_1 = some (r1, r2, r3)) ∧ Aside0 (kq ≤ k) ∧ Aside0 (Kd.S (Kd.slice 46 k46) 23 w' w.heap.size (fun _ => True) v8 x8_1) ∧ Aside0 (IsS135 w w' gb147 x148000_1 x148001_1) ∧ Aside0 (Below w.heap.size w w'))
  case atStart => exact ⟨(([] : List (List (S46)))), (true), (t148), (t149), (by first | rfl | (simp; done) | (simp [*]; done)), H', ⟨Nat.le_refl _⟩, ⟨by first | exact Kd.S_nil _ _ _ _ _ | exact Kd.N_nil _ _ _ _ _ | exact Kd.V_nil _ _ _ _ _ | exact Kd.Q_nil _ _ _ _ _ | exact Kd.R_nil _ _ _ _ _⟩, ⟨by repeat (first | (with_reducible first | exact HI147.out | apply IsS135.alloc | apply IsS135.drewN | apply IsS135.drew | apply IsS135.set_0 | apply IsS135.set_1) | exact HI147.out)⟩, ⟨by repeat (first | (with_reducible first | exact HB.out | apply below_alloc | apply pw_below_drewN | apply below_drew1 | refine below_set ?_ (IsS135.ge HI147.out)) | exact HB.out)⟩⟩
  case round =>
   clear H'
   try clear p2
   try clear c4
   try clear c4b0
   try clear c4b1
   try clear c8
   try clear hcz10_0
   try clear hcz10_1
   try clear hcz7_0
   try clear hcz7_1
   try clear hfz10_0
   try clear hfz10_1
   try clear hfz7_0
   try clear hfz7_1
   obtain ⟨x8_1, x9_1, x148000_1, x148001_1, rfl, HA, HK1, HO_8, HI147, HB⟩ := hrel
   cases gk with
   | zero => exact absurd HA.out (by simp [relation_read.l0])
   | succ k1 =>
    have H := HA.out
    clear HA
    simp only [relation_read.l0] at H
    by_cases c11 : x9_1 = true
    ·subst c11
     have H1 : (relation_read.l1 k1 a0 a1 x8_1 ([] : List (S46)) true x148000_1 x148001_1) = some (r1, r2, r3) := by rw [if_pos rfl] at H; exact H
     clear H
     have H := H1
     clear H1
     have H' := Aside0.mk H
     clear H
     go_wp2
     go_loopg [10, 11] k1 (fun kq v10 v11 w' => ∃ (x10_2 : List (S46)) (x11_2 : Bool) (x148000_2 : ByteArray) (x148001_2 : Int), v11 = .bool x11_2 ∧ Aside0 (relation_read.l1 kq a0 a1 x8_1 x10_2 x11_2 x148000_2 x148001_2 = some (r1, r2, r3)) ∧ Aside0 (kq ≤ k1) ∧ Aside0 (Kd.S (Kd.slice 46 k46) 23 w' w.heap.size (fun k_ => some k_ ≠ (v10 : Value).ownBlock) u8 x8_1) ∧ Aside0 (Kd.R k46 46 w' w.heap.size (fun _ => True) v10 x10_2) ∧ Aside0 (IsS135 w w' gb147 x148000_2 x148001_2) ∧ Aside0 (Below w.heap.size w w'))
     case atStart => exact ⟨(([] : List (S46))), (true), (x148000_1), (x148001_1), (by first | rfl | (simp; done) | (simp [*]; done)), H', ⟨Nat.le_refl _⟩, ⟨by (with_reducible repeat (first | apply Kd.S_alloc | apply Kd.S_drewN | apply Kd.S_drew)); exact Kd.S_mono HO_8.out (fun _ hk => (by simp [Value.ownBlock]))⟩, ⟨by first | exact Kd.R_nil _ _ _ _ _ | exact Kd.N_nil _ _ _ _ _ | exact Kd.V_nil _ _ _ _ _ | exact Kd.Q_nil _ _ _ _ _ | exact Kd.S_nil _ _ _ _ _⟩, ⟨by repeat (first | (with_reducible first | exact HI147.out | apply IsS135.alloc | apply IsS135.drewN | apply IsS135.drew | apply IsS135.set_0 | apply IsS135.set_1) | exact HI147.out)⟩, ⟨by repeat (first | (with_reducible first | exact HB.out | apply below_alloc | apply pw_below_drewN | apply below_drew1 | refine below_set ?_ (IsS135.ge HI147.out)) | exact HB.out)⟩⟩
     case round =>
      clear H'
      try clear c1
      try clear p2
      try clear c4
      try clear c4b0
      try clear c4b1
      try clear c8
      try clear c11
      try clear hcz10_0
      try clear hcz10_1
      try clear hcz7_0
      try clear hcz7_1
      try clear hfz10_0
      try clear hfz10_1
      try clear hfz7_0
      try clear hfz7_1
      try clear p2
      obtain ⟨x10_2, x11_2, x148000_2, x148001_2, rfl, HA, HK2, HO_8, HO_10, HI147, HB⟩ := hrel
      cases gk with
      | zero => exact absurd HA.out (by simp [relation_read.l1])
      | succ k2 =>
       have H := HA.out
       clear HA
       simp only [relation_read.l1] at H
       by_cases c12 : x11_2 = true
       ·subst c12
        have H1 : ((relation_reader_relation.f k2 x148000_2 x148001_2).bind fun bt156 => (if bt156.2.2.2.1 = 0 then (if x10_2.length < 3518437208883 then ((some (x10_2 ++ [(⟨bt156.1, bt156.2.1, bt156.2.2.1⟩ : S46)] : List (S46))).bind fun y163 => (if a1 = true then ((relation_reader_takes.f k2 bt156.2.2.2.2.1 bt156.2.2.2.2.2 124).bind fun bt166 => (relation_read.l1 k2 a0 a1 x8_1 y163 bt166.1 bt166.2.1 bt166.2.2)) else (relation_read.l1 k2 a0 a1 x8_1 y163 false bt156.2.2.2.2.1 bt156.2.2.2.2.2))) else (none)) else (some (([] : List (List (S46))), bt156.2.2.2.1, bt156.2.2.2.2.2)))) = some (r1, r2, r3) := by rw [if_pos rfl] at H; exact H
        clear H
        have H := H1
        clear H1
        replace H := Option.bind_eq_some_iff.mp H
        obtain ⟨⟨t156, t157, t158, t159, t160, t161⟩, A130, H⟩ := H
        replace H : (if t159 = 0 then (if x10_2.length < 3518437208883 then ((some (x10_2 ++ [(⟨t156, t157, t158⟩ : S46)] : List (S46))).bind fun y163 => (if a1 = true then ((relation_reader_takes.f k2 t160 t161 124).bind fun bt166 => (relation_read.l1 k2 a0 a1 x8_1 y163 bt166.1 bt166.2.1 bt166.2.2)) else (relation_read.l1 k2 a0 a1 x8_1 y163 false t160 t161))) else (none)) else (some (([] : List (List (S46))), t159, t161))) = some (r1, r2, r3) := H
        have A13 := Aside0.mk A130
        clear A130
        by_cases c14 : t159 = 0
        ·rw [if_pos c14] at H
         have c14b0 : (t159 == 0) = true := beq_iff_eq.mpr c14
         have c14b1 : (t159 != 0) = false := bne_eq_false_iff_eq.mpr c14
         clear c14
         by_cases c15 : x10_2.length < 3518437208883
         ·rw [if_pos c15] at H
          have LMc15 := Aside0.mk c15
          clear c15
          obtain ⟨y163, hy163⟩ : ∃ y_ : List (S46), y_ = (x10_2 ++ [(⟨t156, t157, t158⟩ : S46)]) := ⟨_, rfl⟩
          replace H : (if a1 = true then ((relation_reader_takes.f k2 t160 t161 124).bind fun bt166 => (relation_read.l1 k2 a0 a1 x8_1 y163 bt166.1 bt166.2.1 bt166.2.2)) else (relation_read.l1 k2 a0 a1 x8_1 y163 false t160 t161)) = some (r1, r2, r3) := by first | (rw [hy163]; with_reducible exact H) | (have H2_ := (Option.bind_some _ _).symm.trans H; rw [hy163]; with_reducible exact H2_) | (have H2_ := (Option.bind_some _ _).symm.trans H; with_reducible exact H2_) | with_reducible exact H | (rw [hy163]; exact H) | exact H
          have Ny163 := Aside0.mk hy163
          clear hy163
          by_cases c16 : a1 = true
          ·subst c16
           have H1 : ((relation_reader_takes.f k2 t160 t161 124).bind fun bt166 => (relation_read.l1 k2 a0 true x8_1 y163 bt166.1 bt166.2.1 bt166.2.2)) = some (r1, r2, r3) := by rw [if_pos rfl] at H; exact H
           clear H
           have H := H1
           clear H1
           replace H := Option.bind_eq_some_iff.mp H
           obtain ⟨⟨t166, t167, t168⟩, A170, H⟩ := H
           replace H : (relation_read.l1 k2 a0 true x8_1 y163 t166 t167 t168) = some (r1, r2, r3) := H
           have A17 := Aside0.mk A170
           clear A170
           have H' := Aside0.mk H
           clear H
           go_wp2_with (first | (go_at_call 108; (with_reducible refine (relation_reader_relation.calls k2 gb147 x148000_2 x148001_2 t156 t157 t158 t159 t160 t161 w _ ?side1 ?side2 ?side3 A13.out).mono ?_); (case side1 => repeat (first | (with_reducible first | exact HI147.out | apply IsS135.alloc | apply IsS135.drewN | apply IsS135.drew | apply IsS135.set_0 | apply IsS135.set_1) | exact HI147.out)); (case side2 => repeat (first | (with_reducible first | exact HB.out | apply below_alloc | apply pw_below_drewN | apply below_drew1 | refine below_set ?_ (IsS135.ge HI147.out)) | exact HB.out)); (case side3 => exact HG.out); rintro e w18 ⟨rfl, hi, hb, hk⟩; have n0_ := Aside0.mk (Kd.S_mono (Kd.S_keep (IsS135.apartS (show IsS135 w _ gb147 x148000_2 x148001_2 from by repeat (first | (with_reducible first | exact HI147.out | apply IsS135.alloc | apply IsS135.drewN | apply IsS135.drew | apply IsS135.set_0 | apply IsS135.set_1) | exact HI147.out)) (Sq HO_8.out) (by decide)) hk (fun _ h => h.2)) (fun _ h => h.1)); have n1_ := Aside0.mk (Kd.R_mono (Kd.R_keep (IsS135.apart (show IsS135 w _ gb147 x148000_2 x148001_2 from by repeat (first | (with_reducible first | exact HI147.out | apply IsS135.alloc | apply IsS135.drewN | apply IsS135.drew | apply IsS135.set_0 | apply IsS135.set_1) | exact HI147.out)) (Rq HO_10.out) (by decide)) hk (fun _ h => h.2)) (fun _ h => h.1)); have n2_ := Aside0.mk (hb); have n3_ := Aside0.mk (hi); clear HO_8; clear HO_10; clear HB; clear HI147; have HO_8 := n0_; have HO_10 := n1_; have HB := n2_; have HI147 := n3_; clear n0_ n1_ n2_ n3_; (try clear hb); (try clear hb2); (try clear hk); (try clear hi)) | ((with_reducible refine gate_dst (N := 12) rfl ?_); refine box_event ?hg (N := 12) ?hd (cs := #[.string (⟨#[]⟩ : ByteArray), .int .i64 0, .string (⟨#[]⟩ : ByteArray)]) (t := 46) ?hr ?_; (case hd => rfl); (case hg => rfl); (case hr => first | (go_simp; done) | (go_simp; rfl)); intro gb162 hg w19 hbox hb; have n0_ := Aside0.mk (Kd.S_below (Kd.S_elderB (Sq HO_8.out) gb162 (Nat.le_of_eq hg.symm)) hb); have n1_ := Aside0.mk (Kd.R_below (Kd.R_elderB (Rq HO_10.out) gb162 (Nat.le_of_eq hg.symm)) hb); have n2_ := Aside0.mk (IsS135.below (by repeat (first | (with_reducible first | exact HI147.out | apply IsS135.alloc | apply IsS135.drewN | apply IsS135.drew | apply IsS135.set_0 | apply IsS135.set_1) | exact HI147.out)) hb); have n3_ := Aside0.mk (below_step (by repeat (first | (with_reducible first | exact HB.out | apply below_alloc | apply pw_below_drewN | apply below_drew1 | refine below_set ?_ (IsS135.ge HI147.out)) | exact HB.out)) hb); have n4_ := Aside0.mk (hbox); have n5_ := Aside0.mk ((by rw [hg]; exact (below_size (by repeat (first | (with_reducible first | exact HB.out | apply below_alloc | apply pw_below_drewN | apply below_drew1 | refine below_set ?_ (IsS135.ge HI147.out)) | exact HB.out))) : w.heap.size ≤ gb162)); have n6_ := Aside0.mk ((by rw [hg]; exact (below_size (by repeat (first | (with_reducible first | exact HB.out | apply below_alloc | apply pw_below_drewN | apply below_drew1 | refine below_set ?_ (IsS135.ge HI147.out)) | exact HB.out))) : w.heap.size ≤ gb162)); have n7_ := Aside0.mk ((by rw [hg]; exact Nat.ne_of_lt (IsS135.lt (show IsS135 w _ gb147 t160 t161 from by repeat (first | (with_reducible first | exact HI147.out | apply IsS135.alloc | apply IsS135.drewN | apply IsS135.drew | apply IsS135.set_0 | apply IsS135.set_1) | exact HI147.out))) : gb147 ≠ gb162)); have n8_ := Aside0.mk ((by rw [hg]; exact Nat.ne_of_gt (IsS135.lt (show IsS135 w _ gb147 t160 t161 from by repeat (first | (with_reducible first | exact HI147.out | apply IsS135.alloc | apply IsS135.drewN | apply IsS135.drew | apply IsS135.set_0 | apply IsS135.set_1) | exact HI147.out))) : gb162 ≠ gb147)); clear HO_8; clear HO_10; clear HI147; clear HB; have HO_8 := n0_; have HO_10 := n1_; have HI147 := n2_; have HB := n3_; have BK162 := n4_; have GW162 := n5_; have GE162 := n6_; have NB147_162 := n7_; have NB162_147 := n8_; clear n0_ n1_ n2_ n3_ n4_ n5_ n6_ n7_ n8_; clear hb hbox hg; have hnb20 := NB162_147.out; have hnc20 := NB147_162.out; have hcz21_0 : w19.cell? ⟨gb162, 0, none⟩ = some (.string (⟨#[]⟩ : ByteArray)) := (blk_cell BK162.out 0).trans rfl; have hcz21_1 : w19.cell? ⟨gb162, 1, none⟩ = some (.int .i64 0) := (blk_cell BK162.out 1).trans rfl; have hcz21_2 : w19.cell? ⟨gb162, 2, none⟩ = some (.string (⟨#[]⟩ : ByteArray)) := (blk_cell BK162.out 2).trans rfl; have hfz21_0 := blk_frozen BK162.out 0; have hfz21_1 := blk_frozen BK162.out 1; have hfz21_2 := blk_frozen BK162.out 2) | ((with_reducible refine gate_builtin (b := .append) (xs := #[.tmp 40, .tmp 42]) rfl ?_); at_builtin; refine Kd.R_append k46 (w0 := w) w.heap.size rfl (.tmp 40) (.tmp 42) 23 46 (.agg #[(.string ⟨#[]⟩), (.int .i64 0), (.string ⟨#[]⟩)]) 40 rfl Tryd.underlying23 info46 rfl (by decide) (by omega) u10 x10_2 (⟨t156, t157, t158⟩ : S46) [.string t156, .int .i64 t157, .string t158] (fun k_ => k_ ≠ gb162) (fun _ => False) rfl (by first | (go_simp; done) | (go_simp; rfl)) ?aP (fun _ hk => hk.elim) ?aF ?aO ?aB ?aS ?aL ?_; (case aP => exact k46_mkM _ _ _ (⟨t156, t157, t158⟩ : S46)); (case aB => exact (by repeat (first | (with_reducible first | exact HB.out | apply below_alloc | apply pw_below_drewN | apply below_drew1 | refine below_set ?_ (IsS135.ge HI147.out) | refine below_set ?_ GE162.out) | exact HB.out))); (case aF => exact (fun k_ hk => Kd.freshB (g := gb162) (o := .cells #[.string t156, .int .i64 t157, .string t158] 46 (0, 0)) (by (with_reducible repeat (first | refine blk_drewN ?_ _ | refine blk_drew ?_ | refine blk_alloc ?_ _)); refine blk_put (cs := #[.string t156, .int .i64 t157, .string (⟨#[]⟩ : ByteArray)]) ?_ 2 _ rfl; (with_reducible repeat (first | refine blk_drewN ?_ _ | refine blk_drew ?_ | refine blk_alloc ?_ _)); refine blk_put (cs := #[.string t156, .int .i64 0, .string (⟨#[]⟩ : ByteArray)]) ?_ 1 _ rfl; (with_reducible repeat (first | refine blk_drewN ?_ _ | refine blk_drew ?_ | refine blk_alloc ?_ _)); refine blk_put (cs := #[.string (⟨#[]⟩ : ByteArray), .int .i64 0, .string (⟨#[]⟩ : ByteArray)]) ?_ 0 _ rfl; (with_reducible repeat (first | refine blk_drewN ?_ _ | refine blk_drew ?_ | refine blk_alloc ?_ _)); exact BK162.out) k_ hk)); (case aO => exact (by (with_reducible repeat (first | apply Kd.R_alloc | apply Kd.R_drewN | apply Kd.R_drew)); exact Kd.R_mono (Kd.R_far (p := ⟨gb162, 2, none⟩) (Kd.R_far (p := ⟨gb162, 1, none⟩) (Kd.R_far (p := ⟨gb162, 0, none⟩) (Kd.R_mono HO_10.out (fun k_ hk => (⟨hk, hk.2⟩ : _ ∧ k_ ≠ gb162))) (fun _ hk => hk.2) (.string t156)) (fun _ hk => hk.2) (.int .i64 t157)) (fun _ hk => hk.2) (.string t158)) (fun _ hk => hk.1.2))); (case aS => exact (below_size (by repeat (first | (with_reducible first | exact HB.out | apply below_alloc | apply pw_below_drewN | apply below_drew1 | refine below_set ?_ (IsS135.ge HI147.out) | refine below_set ?_ GE162.out) | exact HB.out)))); (case aL => have := LMc15.out; omega); intro v164 w22 ho hb hg hat; rw [← Ny163.out] at ho; have n0_ := Aside0.mk (Kd.S_after (ok := (fun k_ => k_ ≠ gb162)) (by (with_reducible repeat (first | apply Kd.S_alloc | apply Kd.S_drewN | apply Kd.S_drew)); exact Kd.S_mono (Kd.S_far (p := ⟨gb162, 2, none⟩) (Kd.S_far (p := ⟨gb162, 1, none⟩) (Kd.S_far (p := ⟨gb162, 0, none⟩) (Kd.S_mono HO_8.out (fun k_ hk => (⟨hk, hk.2⟩ : _ ∧ k_ ≠ gb162))) (fun _ hk => hk.2) (.string t156)) (fun _ hk => hk.2) (.int .i64 t157)) (fun _ hk => hk.2) (.string t158)) (fun _ hk => ⟨hk.1.2, hk.1.1⟩)) hg hat); have n1_ := Aside0.mk (IsS135.grown (show IsS135 w _ gb147 t160 t161 from by repeat (first | (with_reducible first | exact HI147.out | apply IsS135.alloc | apply IsS135.drewN | apply IsS135.drew | apply IsS135.set_0 | apply IsS135.set_1 | refine IsS135.far ?_ NB147_162.out _) | exact HI147.out)) hg (IsS135.own_ne HI147.out HO_10.out (by decide))); have n2_ := Aside0.mk (blk_grown (g := gb162) (o := .cells #[.string t156, .int .i64 t157, .string t158] 46 (0, 0)) (by (with_reducible repeat (first | refine blk_drewN ?_ _ | refine blk_drew ?_ | refine blk_alloc ?_ _)); refine blk_put (cs := #[.string t156, .int .i64 t157, .string (⟨#[]⟩ : ByteArray)]) ?_ 2 _ rfl; (with_reducible repeat (first | refine blk_drewN ?_ _ | refine blk_drew ?_ | refine blk_alloc ?_ _)); refine blk_put (cs := #[.string t156, .int .i64 0, .string (⟨#[]⟩ : ByteArray)]) ?_ 1 _ rfl; (with_reducible repeat (first | refine blk_drewN ?_ _ | refine blk_drew ?_ | refine blk_alloc ?_ _)); refine blk_put (cs := #[.string (⟨#[]⟩ : ByteArray), .int .i64 0, .string (⟨#[]⟩ : ByteArray)]) ?_ 0 _ rfl; (with_reducible repeat (first | refine blk_drewN ?_ _ | refine blk_drew ?_ | refine blk_alloc ?_ _)); exact BK162.out) hg (Kd.R_away HO_10.out (fun _ hk => hk.2))); have n3_ := Aside0.mk (hb); have n4_ := Aside0.mk (ho); clear HO_8; clear HI147; clear BK162; clear HB; clear HO_10; have HO_8 := n0_; have HI147 := n1_; have BK162 := n2_; have HB := n3_; have HO165 := n4_; clear n0_ n1_ n2_ n3_ n4_; clear ho hb hg hat) | (go_at_call 109; (with_reducible refine (relation_reader_takes.calls k2 gb147 t160 t161 124 t166 t167 t168 w _ ?side1 ?side2 A17.out).mono ?_); (case side1 => repeat (first | (with_reducible first | exact HI147.out | apply IsS135.alloc | apply IsS135.drewN | apply IsS135.drew | apply IsS135.set_0 | apply IsS135.set_1 | refine IsS135.far ?_ NB147_162.out _) | exact HI147.out)); (case side2 => repeat (first | (with_reducible first | exact HB.out | apply below_alloc | apply pw_below_drewN | apply below_drew1 | refine below_set ?_ (IsS135.ge HI147.out) | refine below_set ?_ GE162.out) | exact HB.out)); rintro e w23 ⟨rfl, hi, hb, hk⟩; have n0_ := Aside0.mk (Kd.S_mono (Kd.S_keep (IsS135.apartS (show IsS135 w _ gb147 t160 t161 from by repeat (first | (with_reducible first | exact HI147.out | apply IsS135.alloc | apply IsS135.drewN | apply IsS135.drew | apply IsS135.set_0 | apply IsS135.set_1 | refine IsS135.far ?_ NB147_162.out _) | exact HI147.out)) (Sq HO_8.out) (by decide)) hk (fun _ h => h.2)) (fun _ h => h.1)); have n1_ := Aside0.mk (KeepBut.blk hk (g' := gb162) (Bq BK162.out) NB162_147.out (by simp)); have n2_ := Aside0.mk (Kd.R_mono (Kd.R_keep (IsS135.apart (show IsS135 w _ gb147 t160 t161 from by repeat (first | (with_reducible first | exact HI147.out | apply IsS135.alloc | apply IsS135.drewN | apply IsS135.drew | apply IsS135.set_0 | apply IsS135.set_1 | refine IsS135.far ?_ NB147_162.out _) | exact HI147.out)) (Rq HO165.out) (by decide)) hk (fun _ h => h.2)) (fun _ h => h.1)); have n3_ := Aside0.mk (hb); have n4_ := Aside0.mk (hi); clear HO_8; clear BK162; clear HO165; clear HB; clear HI147; have HO_8 := n0_; have BK162 := n1_; have HO165 := n2_; have HB := n3_; have HI147 := n4_; clear n0_ n1_ n2_ n3_ n4_; (try clear hb); (try clear hb2); (try clear hk); (try clear hi)))
           go_roundg k2
           case measure => have := HK1.out; have := HK2.out; omega
           case rel => exact ⟨(y163), (t166), (t167), (t168), (by first | rfl | (simp; done) | (simp [*]; done)), H', ⟨by have := HK1.out; have := HK2.out; omega⟩, ⟨by (with_reducible repeat (first | apply Kd.S_alloc | apply Kd.S_drewN | apply Kd.S_drew)); exact Kd.S_mono HO_8.out (fun _ hk => hk.2)⟩, ⟨by (with_reducible repeat (first | apply Kd.R_alloc | apply Kd.R_drewN | apply Kd.R_drew)); exact Kd.R_mono HO165.out (fun _ hk => trivial)⟩, ⟨by repeat (first | (with_reducible first | exact HI147.out | apply IsS135.alloc | apply IsS135.drewN | apply IsS135.drew | apply IsS135.set_0 | apply IsS135.set_1 | refine IsS135.far ?_ NB147_162.out _) | exact HI147.out)⟩, ⟨by repeat (first | (with_reducible first | exact HB.out | apply below_alloc | apply pw_below_drewN | apply below_drew1 | refine below_set ?_ (IsS135.ge HI147.out) | refine below_set ?_ GE162.out) | exact HB.out)⟩⟩
          ·replace c16 := Bool.eq_false_iff.mpr c16
           subst c16
           have H1 : (relation_read.l1 k2 a0 false x8_1 y163 false t160 t161) = some (r1, r2, r3) := by rw [if_neg (show ¬ (false = true) by decide)] at H; exact H
           clear H
           have H := H1
           clear H1
           have H' := Aside0.mk H
           clear H
           go_wp2_with (first | (go_at_call 108; (with_reducible refine (relation_reader_relation.calls k2 gb147 x148000_2 x148001_2 t156 t157 t158 t159 t160 t161 w _ ?side1 ?side2 ?side3 A13.out).mono ?_); (case side1 => repeat (first | (with_reducible first | exact HI147.out | apply IsS135.alloc | apply IsS135.drewN | apply IsS135.drew | apply IsS135.set_0 | apply IsS135.set_1) | exact HI147.out)); (case side2 => repeat (first | (with_reducible first | exact HB.out | apply below_alloc | apply pw_below_drewN | apply below_drew1 | refine below_set ?_ (IsS135.ge HI147.out)) | exact HB.out)); (case side3 => exact HG.out); rintro e w24 ⟨rfl, hi, hb, hk⟩; have n0_ := Aside0.mk (Kd.S_mono (Kd.S_keep (IsS135.apartS (show IsS135 w _ gb147 x148000_2 x148001_2 from by repeat (first | (with_reducible first | exact HI147.out | apply IsS135.alloc | apply IsS135.drewN | apply IsS135.drew | apply IsS135.set_0 | apply IsS135.set_1) | exact HI147.out)) (Sq HO_8.out) (by decide)) hk (fun _ h => h.2)) (fun _ h => h.1)); have n1_ := Aside0.mk (Kd.R_mono (Kd.R_keep (IsS135.apart (show IsS135 w _ gb147 x148000_2 x148001_2 from by repeat (first | (with_reducible first | exact HI147.out | apply IsS135.alloc | apply IsS135.drewN | apply IsS135.drew | apply IsS135.set_0 | apply IsS135.set_1) | exact HI147.out)) (Rq HO_10.out) (by decide)) hk (fun _ h => h.2)) (fun _ h => h.1)); have n2_ := Aside0.mk (hb); have n3_ := Aside0.mk (hi); clear HO_8; clear HO_10; clear HB; clear HI147; have HO_8 := n0_; have HO_10 := n1_; have HB := n2_; have HI147 := n3_; clear n0_ n1_ n2_ n3_; (try clear hb); (try clear hb2); (try clear hk); (try clear hi)) | ((with_reducible refine gate_dst (N := 12) rfl ?_); refine box_event ?hg (N := 12) ?hd (cs := #[.string (⟨#[]⟩ : ByteArray), .int .i64 0, .string (⟨#[]⟩ : ByteArray)]) (t := 46) ?hr ?_; (case hd => rfl); (case hg => rfl); (case hr => first | (go_simp; done) | (go_simp; rfl)); intro gb162 hg w25 hbox hb; have n0_ := Aside0.mk (Kd.S_below (Kd.S_elderB (Sq HO_8.out) gb162 (Nat.le_of_eq hg.symm)) hb); have n1_ := Aside0.mk (Kd.R_below (Kd.R_elderB (Rq HO_10.out) gb162 (Nat.le_of_eq hg.symm)) hb); have n2_ := Aside0.mk (IsS135.below (by repeat (first | (with_reducible first | exact HI147.out | apply IsS135.alloc | apply IsS135.drewN | apply IsS135.drew | apply IsS135.set_0 | apply IsS135.set_1) | exact HI147.out)) hb); have n3_ := Aside0.mk (below_step (by repeat (first | (with_reducible first | exact HB.out | apply below_alloc | apply pw_below_drewN | apply below_drew1 | refine below_set ?_ (IsS135.ge HI147.out)) | exact HB.out)) hb); have n4_ := Aside0.mk (hbox); have n5_ := Aside0.mk ((by rw [hg]; exact (below_size (by repeat (first | (with_reducible first | exact HB.out | apply below_alloc | apply pw_below_drewN | apply below_drew1 | refine below_set ?_ (IsS135.ge HI147.out)) | exact HB.out))) : w.heap.size ≤ gb162)); have n6_ := Aside0.mk ((by rw [hg]; exact (below_size (by repeat (first | (with_reducible first | exact HB.out | apply below_alloc | apply pw_below_drewN | apply below_drew1 | refine below_set ?_ (IsS135.ge HI147.out)) | exact HB.out))) : w.heap.size ≤ gb162)); have n7_ := Aside0.mk ((by rw [hg]; exact Nat.ne_of_lt (IsS135.lt (show IsS135 w _ gb147 t160 t161 from by repeat (first | (with_reducible first | exact HI147.out | apply IsS135.alloc | apply IsS135.drewN | apply IsS135.drew | apply IsS135.set_0 | apply IsS135.set_1) | exact HI147.out))) : gb147 ≠ gb162)); have n8_ := Aside0.mk ((by rw [hg]; exact Nat.ne_of_gt (IsS135.lt (show IsS135 w _ gb147 t160 t161 from by repeat (first | (with_reducible first | exact HI147.out | apply IsS135.alloc | apply IsS135.drewN | apply IsS135.drew | apply IsS135.set_0 | apply IsS135.set_1) | exact HI147.out))) : gb162 ≠ gb147)); clear HO_8; clear HO_10; clear HI147; clear HB; have HO_8 := n0_; have HO_10 := n1_; have HI147 := n2_; have HB := n3_; have BK162 := n4_; have GW162 := n5_; have GE162 := n6_; have NB147_162 := n7_; have NB162_147 := n8_; clear n0_ n1_ n2_ n3_ n4_ n5_ n6_ n7_ n8_; clear hb hbox hg; have hnb26 := NB162_147.out; have hnc26 := NB147_162.out; have hcz27_0 : w25.cell? ⟨gb162, 0, none⟩ = some (.string (⟨#[]⟩ : ByteArray)) := (blk_cell BK162.out 0).trans rfl; have hcz27_1 : w25.cell? ⟨gb162, 1, none⟩ = some (.int .i64 0) := (blk_cell BK162.out 1).trans rfl; have hcz27_2 : w25.cell? ⟨gb162, 2, none⟩ = some (.string (⟨#[]⟩ : ByteArray)) := (blk_cell BK162.out 2).trans rfl; have hfz27_0 := blk_frozen BK162.out 0; have hfz27_1 := blk_frozen BK162.out 1; have hfz27_2 := blk_frozen BK162.out 2) | ((with_reducible refine gate_builtin (b := .append) (xs := #[.tmp 40, .tmp 42]) rfl ?_); at_builtin; refine Kd.R_append k46 (w0 := w) w.heap.size rfl (.tmp 40) (.tmp 42) 23 46 (.agg #[(.string ⟨#[]⟩), (.int .i64 0), (.string ⟨#[]⟩)]) 40 rfl Tryd.underlying23 info46 rfl (by decide) (by omega) u10 x10_2 (⟨t156, t157, t158⟩ : S46) [.string t156, .int .i64 t157, .string t158] (fun k_ => k_ ≠ gb162) (fun _ => False) rfl (by first | (go_simp; done) | (go_simp; rfl)) ?aP (fun _ hk => hk.elim) ?aF ?aO ?aB ?aS ?aL ?_; (case aP => exact k46_mkM _ _ _ (⟨t156, t157, t158⟩ : S46)); (case aB => exact (by repeat (first | (with_reducible first | exact HB.out | apply below_alloc | apply pw_below_drewN | apply below_drew1 | refine below_set ?_ (IsS135.ge HI147.out) | refine below_set ?_ GE162.out) | exact HB.out))); (case aF => exact (fun k_ hk => Kd.freshB (g := gb162) (o := .cells #[.string t156, .int .i64 t157, .string t158] 46 (0, 0)) (by (with_reducible repeat (first | refine blk_drewN ?_ _ | refine blk_drew ?_ | refine blk_alloc ?_ _)); refine blk_put (cs := #[.string t156, .int .i64 t157, .string (⟨#[]⟩ : ByteArray)]) ?_ 2 _ rfl; (with_reducible repeat (first | refine blk_drewN ?_ _ | refine blk_drew ?_ | refine blk_alloc ?_ _)); refine blk_put (cs := #[.string t156, .int .i64 0, .string (⟨#[]⟩ : ByteArray)]) ?_ 1 _ rfl; (with_reducible repeat (first | refine blk_drewN ?_ _ | refine blk_drew ?_ | refine blk_alloc ?_ _)); refine blk_put (cs := #[.string (⟨#[]⟩ : ByteArray), .int .i64 0, .string (⟨#[]⟩ : ByteArray)]) ?_ 0 _ rfl; (with_reducible repeat (first | refine blk_drewN ?_ _ | refine blk_drew ?_ | refine blk_alloc ?_ _)); exact BK162.out) k_ hk)); (case aO => exact (by (with_reducible repeat (first | apply Kd.R_alloc | apply Kd.R_drewN | apply Kd.R_drew)); exact Kd.R_mono (Kd.R_far (p := ⟨gb162, 2, none⟩) (Kd.R_far (p := ⟨gb162, 1, none⟩) (Kd.R_far (p := ⟨gb162, 0, none⟩) (Kd.R_mono HO_10.out (fun k_ hk => (⟨hk, hk.2⟩ : _ ∧ k_ ≠ gb162))) (fun _ hk => hk.2) (.string t156)) (fun _ hk => hk.2) (.int .i64 t157)) (fun _ hk => hk.2) (.string t158)) (fun _ hk => hk.1.2))); (case aS => exact (below_size (by repeat (first | (with_reducible first | exact HB.out | apply below_alloc | apply pw_below_drewN | apply below_drew1 | refine below_set ?_ (IsS135.ge HI147.out) | refine below_set ?_ GE162.out) | exact HB.out)))); (case aL => have := LMc15.out; omega); intro v164 w28 ho hb hg hat; rw [← Ny163.out] at ho; have n0_ := Aside0.mk (Kd.S_after (ok := (fun k_ => k_ ≠ gb162)) (by (with_reducible repeat (first | apply Kd.S_alloc | apply Kd.S_drewN | apply Kd.S_drew)); exact Kd.S_mono (Kd.S_far (p := ⟨gb162, 2, none⟩) (Kd.S_far (p := ⟨gb162, 1, none⟩) (Kd.S_far (p := ⟨gb162, 0, none⟩) (Kd.S_mono HO_8.out (fun k_ hk => (⟨hk, hk.2⟩ : _ ∧ k_ ≠ gb162))) (fun _ hk => hk.2) (.string t156)) (fun _ hk => hk.2) (.int .i64 t157)) (fun _ hk => hk.2) (.string t158)) (fun _ hk => ⟨hk.1.2, hk.1.1⟩)) hg hat); have n1_ := Aside0.mk (IsS135.grown (show IsS135 w _ gb147 t160 t161 from by repeat (first | (with_reducible first | exact HI147.out | apply IsS135.alloc | apply IsS135.drewN | apply IsS135.drew | apply IsS135.set_0 | apply IsS135.set_1 | refine IsS135.far ?_ NB147_162.out _) | exact HI147.out)) hg (IsS135.own_ne HI147.out HO_10.out (by decide))); have n2_ := Aside0.mk (blk_grown (g := gb162) (o := .cells #[.string t156, .int .i64 t157, .string t158] 46 (0, 0)) (by (with_reducible repeat (first | refine blk_drewN ?_ _ | refine blk_drew ?_ | refine blk_alloc ?_ _)); refine blk_put (cs := #[.string t156, .int .i64 t157, .string (⟨#[]⟩ : ByteArray)]) ?_ 2 _ rfl; (with_reducible repeat (first | refine blk_drewN ?_ _ | refine blk_drew ?_ | refine blk_alloc ?_ _)); refine blk_put (cs := #[.string t156, .int .i64 0, .string (⟨#[]⟩ : ByteArray)]) ?_ 1 _ rfl; (with_reducible repeat (first | refine blk_drewN ?_ _ | refine blk_drew ?_ | refine blk_alloc ?_ _)); refine blk_put (cs := #[.string (⟨#[]⟩ : ByteArray), .int .i64 0, .string (⟨#[]⟩ : ByteArray)]) ?_ 0 _ rfl; (with_reducible repeat (first | refine blk_drewN ?_ _ | refine blk_drew ?_ | refine blk_alloc ?_ _)); exact BK162.out) hg (Kd.R_away HO_10.out (fun _ hk => hk.2))); have n3_ := Aside0.mk (hb); have n4_ := Aside0.mk (ho); clear HO_8; clear HI147; clear BK162; clear HB; clear HO_10; have HO_8 := n0_; have HI147 := n1_; have BK162 := n2_; have HB := n3_; have HO165 := n4_; clear n0_ n1_ n2_ n3_ n4_; clear ho hb hg hat))
           go_roundg k2
           case measure => have := HK1.out; have := HK2.out; omega
           case rel => exact ⟨(y163), (false), (t160), (t161), (by first | rfl | (simp; done) | (simp [*]; done)), H', ⟨by have := HK1.out; have := HK2.out; omega⟩, ⟨by (with_reducible repeat (first | apply Kd.S_alloc | apply Kd.S_drewN | apply Kd.S_drew)); exact Kd.S_mono HO_8.out (fun _ hk => hk.2)⟩, ⟨by (with_reducible repeat (first | apply Kd.R_alloc | apply Kd.R_drewN | apply Kd.R_drew)); exact Kd.R_mono HO165.out (fun _ hk => trivial)⟩, ⟨by repeat (first | (with_reducible first | exact HI147.out | apply IsS135.alloc | apply IsS135.drewN | apply IsS135.drew | apply IsS135.set_0 | apply IsS135.set_1 | refine IsS135.far ?_ NB147_162.out _) | exact HI147.out)⟩, ⟨by repeat (first | (with_reducible first | exact HB.out | apply below_alloc | apply pw_below_drewN | apply below_drew1 | refine below_set ?_ (IsS135.ge HI147.out) | refine below_set ?_ GE162.out) | exact HB.out)⟩⟩
         ·rw [if_neg c15] at H
          exact absurd H (by simp)
        ·rw [if_neg c14] at H
         have c14b0 : (t159 == 0) = false := beq_eq_false_iff_ne.mpr c14
         have c14b1 : (t159 != 0) = true := bne_iff_ne.mpr c14
         simp only [Option.some.injEq, Prod.mk.injEq] at H
         obtain ⟨rfl, rfl, rfl⟩ := H
         go_wp2_with (first | (go_at_call 108; (with_reducible refine (relation_reader_relation.calls k2 gb147 x148000_2 x148001_2 t156 t157 t158 t159 t160 t161 w _ ?side1 ?side2 ?side3 A13.out).mono ?_); (case side1 => repeat (first | (with_reducible first | exact HI147.out | apply IsS135.alloc | apply IsS135.drewN | apply IsS135.drew | apply IsS135.set_0 | apply IsS135.set_1) | exact HI147.out)); (case side2 => repeat (first | (with_reducible first | exact HB.out | apply below_alloc | apply pw_below_drewN | apply below_drew1 | refine below_set ?_ (IsS135.ge HI147.out)) | exact HB.out)); (case side3 => exact HG.out); rintro e w29 ⟨rfl, hi, hb, hk⟩; have n0_ := Aside0.mk (Kd.S_mono (Kd.S_keep (IsS135.apartS (show IsS135 w _ gb147 x148000_2 x148001_2 from by repeat (first | (with_reducible first | exact HI147.out | apply IsS135.alloc | apply IsS135.drewN | apply IsS135.drew | apply IsS135.set_0 | apply IsS135.set_1) | exact HI147.out)) (Sq HO_8.out) (by decide)) hk (fun _ h => h.2)) (fun _ h => h.1)); have n1_ := Aside0.mk (Kd.R_mono (Kd.R_keep (IsS135.apart (show IsS135 w _ gb147 x148000_2 x148001_2 from by repeat (first | (with_reducible first | exact HI147.out | apply IsS135.alloc | apply IsS135.drewN | apply IsS135.drew | apply IsS135.set_0 | apply IsS135.set_1) | exact HI147.out)) (Rq HO_10.out) (by decide)) hk (fun _ h => h.2)) (fun _ h => h.1)); have n2_ := Aside0.mk (hb); have n3_ := Aside0.mk (hi); clear HO_8; clear HO_10; clear HB; clear HI147; have HO_8 := n0_; have HO_10 := n1_; have HB := n2_; have HI147 := n3_; clear n0_ n1_ n2_ n3_; (try clear hb); (try clear hb2); (try clear hk); (try clear hi)) | ((with_reducible refine gate_dst (N := 12) rfl ?_); refine box_event ?hg (N := 12) ?hd (cs := #[.string (⟨#[]⟩ : ByteArray), .int .i64 0, .string (⟨#[]⟩ : ByteArray)]) (t := 46) ?hr ?_; (case hd => rfl); (case hg => rfl); (case hr => first | (go_simp; done) | (go_simp; rfl)); intro gb162 hg w30 hbox hb; have n0_ := Aside0.mk (Kd.S_below (Kd.S_elderB (Sq HO_8.out) gb162 (Nat.le_of_eq hg.symm)) hb); have n1_ := Aside0.mk (Kd.R_below (Kd.R_elderB (Rq HO_10.out) gb162 (Nat.le_of_eq hg.symm)) hb); have n2_ := Aside0.mk (IsS135.below (by repeat (first | (with_reducible first | exact HI147.out | apply IsS135.alloc | apply IsS135.drewN | apply IsS135.drew | apply IsS135.set_0 | apply IsS135.set_1) | exact HI147.out)) hb); have n3_ := Aside0.mk (below_step (by repeat (first | (with_reducible first | exact HB.out | apply below_alloc | apply pw_below_drewN | apply below_drew1 | refine below_set ?_ (IsS135.ge HI147.out)) | exact HB.out)) hb); have n4_ := Aside0.mk (hbox); have n5_ := Aside0.mk ((by rw [hg]; exact (below_size (by repeat (first | (with_reducible first | exact HB.out | apply below_alloc | apply pw_below_drewN | apply below_drew1 | refine below_set ?_ (IsS135.ge HI147.out)) | exact HB.out))) : w.heap.size ≤ gb162)); have n6_ := Aside0.mk ((by rw [hg]; exact (below_size (by repeat (first | (with_reducible first | exact HB.out | apply below_alloc | apply pw_below_drewN | apply below_drew1 | refine below_set ?_ (IsS135.ge HI147.out)) | exact HB.out))) : w.heap.size ≤ gb162)); have n7_ := Aside0.mk ((by rw [hg]; exact Nat.ne_of_lt (IsS135.lt (show IsS135 w _ gb147 t160 t161 from by repeat (first | (with_reducible first | exact HI147.out | apply IsS135.alloc | apply IsS135.drewN | apply IsS135.drew | apply IsS135.set_0 | apply IsS135.set_1) | exact HI147.out))) : gb147 ≠ gb162)); have n8_ := Aside0.mk ((by rw [hg]; exact Nat.ne_of_gt (IsS135.lt (show IsS135 w _ gb147 t160 t161 from by repeat (first | (with_reducible first | exact HI147.out | apply IsS135.alloc | apply IsS135.drewN | apply IsS135.drew | apply IsS135.set_0 | apply IsS135.set_1) | exact HI147.out))) : gb162 ≠ gb147)); clear HO_8; clear HO_10; clear HI147; clear HB; have HO_8 := n0_; have HO_10 := n1_; have HI147 := n2_; have HB := n3_; have BK162 := n4_; have GW162 := n5_; have GE162 := n6_; have NB147_162 := n7_; have NB162_147 := n8_; clear n0_ n1_ n2_ n3_ n4_ n5_ n6_ n7_ n8_; clear hb hbox hg; have hnb31 := NB162_147.out; have hnc31 := NB147_162.out; have hcz32_0 : w30.cell? ⟨gb162, 0, none⟩ = some (.string (⟨#[]⟩ : ByteArray)) := (blk_cell BK162.out 0).trans rfl; have hcz32_1 : w30.cell? ⟨gb162, 1, none⟩ = some (.int .i64 0) := (blk_cell BK162.out 1).trans rfl; have hcz32_2 : w30.cell? ⟨gb162, 2, none⟩ = some (.string (⟨#[]⟩ : ByteArray)) := (blk_cell BK162.out 2).trans rfl; have hfz32_0 := blk_frozen BK162.out 0; have hfz32_1 := blk_frozen BK162.out 1; have hfz32_2 := blk_frozen BK162.out 2; obtain ⟨HGz33, hgz33⟩ := HI147.out; have hcz33_0 := cellS135_0 HGz33; have hcz33_1 := cellS135_1 HGz33; have hfz33_0 := blk_frozen HGz33 0; have hfz33_1 := blk_frozen HGz33 1; clear HGz33 hgz33))
         repeat (go_quiet (first | (go_at_call 108; (with_reducible refine (relation_reader_relation.calls k2 gb147 x148000_2 x148001_2 t156 t157 t158 t159 t160 t161 w _ ?side1 ?side2 ?side3 A13.out).mono ?_); (case side1 => repeat (first | (with_reducible first | exact HI147.out | apply IsS135.alloc | apply IsS135.drewN | apply IsS135.drew | apply IsS135.set_0 | apply IsS135.set_1) | exact HI147.out)); (case side2 => repeat (first | (with_reducible first | exact HB.out | apply below_alloc | apply pw_below_drewN | apply below_drew1 | refine below_set ?_ (IsS135.ge HI147.out)) | exact HB.out)); (case side3 => exact HG.out); rintro e w29 ⟨rfl, hi, hb, hk⟩; have n0_ := Aside0.mk (Kd.S_mono (Kd.S_keep (IsS135.apartS (show IsS135 w _ gb147 x148000_2 x148001_2 from by repeat (first | (with_reducible first | exact HI147.out | apply IsS135.alloc | apply IsS135.drewN | apply IsS135.drew | apply IsS135.set_0 | apply IsS135.set_1) | exact HI147.out)) (Sq HO_8.out) (by decide)) hk (fun _ h => h.2)) (fun _ h => h.1)); have n1_ := Aside0.mk (Kd.R_mono (Kd.R_keep (IsS135.apart (show IsS135 w _ gb147 x148000_2 x148001_2 from by repeat (first | (with_reducible first | exact HI147.out | apply IsS135.alloc | apply IsS135.drewN | apply IsS135.drew | apply IsS135.set_0 | apply IsS135.set_1) | exact HI147.out)) (Rq HO_10.out) (by decide)) hk (fun _ h => h.2)) (fun _ h => h.1)); have n2_ := Aside0.mk (hb); have n3_ := Aside0.mk (hi); clear HO_8; clear HO_10; clear HB; clear HI147; have HO_8 := n0_; have HO_10 := n1_; have HB := n2_; have HI147 := n3_; clear n0_ n1_ n2_ n3_; (try clear hb); (try clear hb2); (try clear hk); (try clear hi)) | ((with_reducible refine gate_dst (N := 12) rfl ?_); refine box_event ?hg (N := 12) ?hd (cs := #[.string (⟨#[]⟩ : ByteArray), .int .i64 0, .string (⟨#[]⟩ : ByteArray)]) (t := 46) ?hr ?_; (case hd => rfl); (case hg => rfl); (case hr => first | (go_simp; done) | (go_simp; rfl)); intro gb162 hg w30 hbox hb; have n0_ := Aside0.mk (Kd.S_below (Kd.S_elderB (Sq HO_8.out) gb162 (Nat.le_of_eq hg.symm)) hb); have n1_ := Aside0.mk (Kd.R_below (Kd.R_elderB (Rq HO_10.out) gb162 (Nat.le_of_eq hg.symm)) hb); have n2_ := Aside0.mk (IsS135.below (by repeat (first | (with_reducible first | exact HI147.out | apply IsS135.alloc | apply IsS135.drewN | apply IsS135.drew | apply IsS135.set_0 | apply IsS135.set_1) | exact HI147.out)) hb); have n3_ := Aside0.mk (below_step (by repeat (first | (with_reducible first | exact HB.out | apply below_alloc | apply pw_below_drewN | apply below_drew1 | refine below_set ?_ (IsS135.ge HI147.out)) | exact HB.out)) hb); have n4_ := Aside0.mk (hbox); have n5_ := Aside0.mk ((by rw [hg]; exact (below_size (by repeat (first | (with_reducible first | exact HB.out | apply below_alloc | apply pw_below_drewN | apply below_drew1 | refine below_set ?_ (IsS135.ge HI147.out)) | exact HB.out))) : w.heap.size ≤ gb162)); have n6_ := Aside0.mk ((by rw [hg]; exact (below_size (by repeat (first | (with_reducible first | exact HB.out | apply below_alloc | apply pw_below_drewN | apply below_drew1 | refine below_set ?_ (IsS135.ge HI147.out)) | exact HB.out))) : w.heap.size ≤ gb162)); have n7_ := Aside0.mk ((by rw [hg]; exact Nat.ne_of_lt (IsS135.lt (show IsS135 w _ gb147 t160 t161 from by repeat (first | (with_reducible first | exact HI147.out | apply IsS135.alloc | apply IsS135.drewN | apply IsS135.drew | apply IsS135.set_0 | apply IsS135.set_1) | exact HI147.out))) : gb147 ≠ gb162)); have n8_ := Aside0.mk ((by rw [hg]; exact Nat.ne_of_gt (IsS135.lt (show IsS135 w _ gb147 t160 t161 from by repeat (first | (with_reducible first | exact HI147.out | apply IsS135.alloc | apply IsS135.drewN | apply IsS135.drew | apply IsS135.set_0 | apply IsS135.set_1) | exact HI147.out))) : gb162 ≠ gb147)); clear HO_8; clear HO_10; clear HI147; clear HB; have HO_8 := n0_; have HO_10 := n1_; have HI147 := n2_; have HB := n3_; have BK162 := n4_; have GW162 := n5_; have GE162 := n6_; have NB147_162 := n7_; have NB162_147 := n8_; clear n0_ n1_ n2_ n3_ n4_ n5_ n6_ n7_ n8_; clear hb hbox hg; have hnb31 := NB162_147.out; have hnc31 := NB147_162.out; have hcz32_0 : w30.cell? ⟨gb162, 0, none⟩ = some (.string (⟨#[]⟩ : ByteArray)) := (blk_cell BK162.out 0).trans rfl; have hcz32_1 : w30.cell? ⟨gb162, 1, none⟩ = some (.int .i64 0) := (blk_cell BK162.out 1).trans rfl; have hcz32_2 : w30.cell? ⟨gb162, 2, none⟩ = some (.string (⟨#[]⟩ : ByteArray)) := (blk_cell BK162.out 2).trans rfl; have hfz32_0 := blk_frozen BK162.out 0; have hfz32_1 := blk_frozen BK162.out 1; have hfz32_2 := blk_frozen BK162.out 2; obtain ⟨HGz33, hgz33⟩ := HI147.out; have hcz33_0 := cellS135_0 HGz33; have hcz33_1 := cellS135_1 HGz33; have hfz33_0 := blk_frozen HGz33 0; have hfz33_1 := blk_frozen HGz33 1; clear HGz33 hgz33)); try go_wp2_with (first | (go_at_call 108; (with_reducible refine (relation_reader_relation.calls k2 gb147 x148000_2 x148001_2 t156 t157 t158 t159 t160 t161 w _ ?side1 ?side2 ?side3 A13.out).mono ?_); (case side1 => repeat (first | (with_reducible first | exact HI147.out | apply IsS135.alloc | apply IsS135.drewN | apply IsS135.drew | apply IsS135.set_0 | apply IsS135.set_1) | exact HI147.out)); (case side2 => repeat (first | (with_reducible first | exact HB.out | apply below_alloc | apply pw_below_drewN | apply below_drew1 | refine below_set ?_ (IsS135.ge HI147.out)) | exact HB.out)); (case side3 => exact HG.out); rintro e w29 ⟨rfl, hi, hb, hk⟩; have n0_ := Aside0.mk (Kd.S_mono (Kd.S_keep (IsS135.apartS (show IsS135 w _ gb147 x148000_2 x148001_2 from by repeat (first | (with_reducible first | exact HI147.out | apply IsS135.alloc | apply IsS135.drewN | apply IsS135.drew | apply IsS135.set_0 | apply IsS135.set_1) | exact HI147.out)) (Sq HO_8.out) (by decide)) hk (fun _ h => h.2)) (fun _ h => h.1)); have n1_ := Aside0.mk (Kd.R_mono (Kd.R_keep (IsS135.apart (show IsS135 w _ gb147 x148000_2 x148001_2 from by repeat (first | (with_reducible first | exact HI147.out | apply IsS135.alloc | apply IsS135.drewN | apply IsS135.drew | apply IsS135.set_0 | apply IsS135.set_1) | exact HI147.out)) (Rq HO_10.out) (by decide)) hk (fun _ h => h.2)) (fun _ h => h.1)); have n2_ := Aside0.mk (hb); have n3_ := Aside0.mk (hi); clear HO_8; clear HO_10; clear HB; clear HI147; have HO_8 := n0_; have HO_10 := n1_; have HB := n2_; have HI147 := n3_; clear n0_ n1_ n2_ n3_; (try clear hb); (try clear hb2); (try clear hk); (try clear hi)) | ((with_reducible refine gate_dst (N := 12) rfl ?_); refine box_event ?hg (N := 12) ?hd (cs := #[.string (⟨#[]⟩ : ByteArray), .int .i64 0, .string (⟨#[]⟩ : ByteArray)]) (t := 46) ?hr ?_; (case hd => rfl); (case hg => rfl); (case hr => first | (go_simp; done) | (go_simp; rfl)); intro gb162 hg w30 hbox hb; have n0_ := Aside0.mk (Kd.S_below (Kd.S_elderB (Sq HO_8.out) gb162 (Nat.le_of_eq hg.symm)) hb); have n1_ := Aside0.mk (Kd.R_below (Kd.R_elderB (Rq HO_10.out) gb162 (Nat.le_of_eq hg.symm)) hb); have n2_ := Aside0.mk (IsS135.below (by repeat (first | (with_reducible first | exact HI147.out | apply IsS135.alloc | apply IsS135.drewN | apply IsS135.drew | apply IsS135.set_0 | apply IsS135.set_1) | exact HI147.out)) hb); have n3_ := Aside0.mk (below_step (by repeat (first | (with_reducible first | exact HB.out | apply below_alloc | apply pw_below_drewN | apply below_drew1 | refine below_set ?_ (IsS135.ge HI147.out)) | exact HB.out)) hb); have n4_ := Aside0.mk (hbox); have n5_ := Aside0.mk ((by rw [hg]; exact (below_size (by repeat (first | (with_reducible first | exact HB.out | apply below_alloc | apply pw_below_drewN | apply below_drew1 | refine below_set ?_ (IsS135.ge HI147.out)) | exact HB.out))) : w.heap.size ≤ gb162)); have n6_ := Aside0.mk ((by rw [hg]; exact (below_size (by repeat (first | (with_reducible first | exact HB.out | apply below_alloc | apply pw_below_drewN | apply below_drew1 | refine below_set ?_ (IsS135.ge HI147.out)) | exact HB.out))) : w.heap.size ≤ gb162)); have n7_ := Aside0.mk ((by rw [hg]; exact Nat.ne_of_lt (IsS135.lt (show IsS135 w _ gb147 t160 t161 from by repeat (first | (with_reducible first | exact HI147.out | apply IsS135.alloc | apply IsS135.drewN | apply IsS135.drew | apply IsS135.set_0 | apply IsS135.set_1) | exact HI147.out))) : gb147 ≠ gb162)); have n8_ := Aside0.mk ((by rw [hg]; exact Nat.ne_of_gt (IsS135.lt (show IsS135 w _ gb147 t160 t161 from by repeat (first | (with_reducible first | exact HI147.out | apply IsS135.alloc | apply IsS135.drewN | apply IsS135.drew | apply IsS135.set_0 | apply IsS135.set_1) | exact HI147.out))) : gb162 ≠ gb147)); clear HO_8; clear HO_10; clear HI147; clear HB; have HO_8 := n0_; have HO_10 := n1_; have HI147 := n2_; have HB := n3_; have BK162 := n4_; have GW162 := n5_; have GE162 := n6_; have NB147_162 := n7_; have NB162_147 := n8_; clear n0_ n1_ n2_ n3_ n4_ n5_ n6_ n7_ n8_; clear hb hbox hg; have hnb31 := NB162_147.out; have hnc31 := NB147_162.out; have hcz32_0 : w30.cell? ⟨gb162, 0, none⟩ = some (.string (⟨#[]⟩ : ByteArray)) := (blk_cell BK162.out 0).trans rfl; have hcz32_1 : w30.cell? ⟨gb162, 1, none⟩ = some (.int .i64 0) := (blk_cell BK162.out 1).trans rfl; have hcz32_2 : w30.cell? ⟨gb162, 2, none⟩ = some (.string (⟨#[]⟩ : ByteArray)) := (blk_cell BK162.out 2).trans rfl; have hfz32_0 := blk_frozen BK162.out 0; have hfz32_1 := blk_frozen BK162.out 1; have hfz32_2 := blk_frozen BK162.out 2; obtain ⟨HGz33, hgz33⟩ := HI147.out; have hcz33_0 := cellS135_0 HGz33; have hcz33_1 := cellS135_1 HGz33; have hfz33_0 := blk_frozen HGz33 0; have hfz33_1 := blk_frozen HGz33 1; clear HGz33 hgz33)))
         go_ret3
         exact ⟨_, by first | rfl | (simp [errW_none, errW_some] <;> rfl) | (simp [*, errW_none, errW_some] <;> rfl) | (simp [errW_none, errW_some, Go.Proofs.YtmocooihkobdjaaDoor.listNe]; done), by first | exact Kd.S_nil _ _ _ _ _ | exact Kd.N_nil _ _ _ _ _ | exact Kd.V_nil _ _ _ _ _ | exact Kd.Q_nil _ _ _ _ _ | exact Kd.R_nil _ _ _ _ _, by repeat (first | (with_reducible first | exact HB.out | apply below_alloc | apply pw_below_drewN | apply below_drew1 | refine below_set ?_ (IsS135.ge HI147.out) | refine below_set ?_ GE162.out) | exact HB.out)⟩
       ·replace c12 := Bool.eq_false_iff.mpr c12
        subst c12
        have H1 : (if x8_1.length < 5864062014805 then ((relation_reader_takes.f k2 x148000_2 x148001_2 44).bind fun bt153 => (relation_read.l0 k2 a0 a1 (x8_1 ++ [x10_2]) bt153.1 bt153.2.1 bt153.2.2)) else (none)) = some (r1, r2, r3) := by rw [if_neg (show ¬ (false = true) by decide)] at H; exact H
        clear H
        have H := H1
        clear H1
        by_cases c34 : x8_1.length < 5864062014805
        ·rw [if_pos c34] at H
         have LMc34 := Aside0.mk c34
         clear c34
         obtain ⟨y150, hy150⟩ : ∃ y_ : List (List (S46)), y_ = (x8_1 ++ [x10_2]) := ⟨_, rfl⟩
         replace H : ((relation_reader_takes.f k2 x148000_2 x148001_2 44).bind fun bt153 => (relation_read.l0 k2 a0 a1 y150 bt153.1 bt153.2.1 bt153.2.2)) = some (r1, r2, r3) := by first | (rw [hy150]; with_reducible exact H) | (have H2_ := (Option.bind_some _ _).symm.trans H; rw [hy150]; with_reducible exact H2_) | (have H2_ := (Option.bind_some _ _).symm.trans H; with_reducible exact H2_) | with_reducible exact H | (rw [hy150]; exact H) | exact H
         have Ny150 := Aside0.mk hy150
         clear hy150
         replace H := Option.bind_eq_some_iff.mp H
         obtain ⟨⟨t153, t154, t155⟩, A350, H⟩ := H
         replace H : (relation_read.l0 k2 a0 a1 y150 t153 t154 t155) = some (r1, r2, r3) := H
         have A35 := Aside0.mk A350
         clear A350
         have H' := Aside0.mk H
         clear H
         obtain ⟨Ao37, co37, eo37⟩ := Kd.R_slice HO_10.out
         subst eo37
         go_wp2_with (first | ((with_reducible refine gate_builtin (b := .append) (xs := #[.tmp 49, .tmp 51]) rfl ?_); at_builtin; refine Kd.S_append (Kd.slice 46 k46) (w0 := w) w.heap.size rfl (.tmp 49) (.tmp 51) 22 23 (.slice none 0 0) 24 rfl Tryd.underlying22 info23 rfl (by decide) (by omega) u8 x8_1 x10_2 [.slice Ao37 x10_2.length co37] (fun _ => True) (fun k_ => some k_ = (.slice Ao37 x10_2.length co37 : Value).ownBlock) rfl rfl ?aP (fun k_ hk_ => ((Kd.R_mono (ok' := fun k_ => ((fun _ => True)) k_ ∧ some k_ ≠ (u8 : Value).ownBlock) (Ra (HO_10.out) (Kd.S_typed HO_8.out)) (fun k_ hk => ⟨trivial, hk.2⟩))).1 k_ hk_.symm) ?aF ?aO ?aB ?aS ?aL ?_; (case aP => exact Kd.M_row (Kd.R_mono (Kd.R_tight rfl (Kd.R_mono (ok' := fun k_ => ((fun _ => True)) k_ ∧ some k_ ≠ (u8 : Value).ownBlock) (Ra (HO_10.out) (Kd.S_typed HO_8.out)) (fun k_ hk => ⟨trivial, hk.2⟩))) (fun _ h_ => h_))); (case aB => exact (by repeat (first | (with_reducible first | exact HB.out | apply below_alloc | apply pw_below_drewN | apply below_drew1 | refine below_set ?_ (IsS135.ge HI147.out)) | exact HB.out))); (case aF => exact (fun _ _ => trivial)); (case aO => exact (by (with_reducible repeat (first | apply Kd.S_alloc | apply Kd.S_drewN | apply Kd.S_drew)); exact Kd.S_mono HO_8.out (fun k_ hk => ⟨trivial, fun e_ => hk e_⟩))); (case aS => exact (below_size (by repeat (first | (with_reducible first | exact HB.out | apply below_alloc | apply pw_below_drewN | apply below_drew1 | refine below_set ?_ (IsS135.ge HI147.out)) | exact HB.out)))); (case aL => have := LMc34.out; omega); intro v151 w36 ho hb hg hat; rw [← Ny150.out] at ho; have n0_ := Aside0.mk (IsS135.grown (show IsS135 w _ gb147 x148000_2 x148001_2 from by repeat (first | (with_reducible first | exact HI147.out | apply IsS135.alloc | apply IsS135.drewN | apply IsS135.drew | apply IsS135.set_0 | apply IsS135.set_1) | exact HI147.out)) hg (IsS135.own_neS HI147.out HO_8.out (by decide))); have n1_ := Aside0.mk (hb); have n2_ := Aside0.mk (ho); clear HI147; clear HB; clear HO_8; clear HO_10; have HI147 := n0_; have HB := n1_; have HO152 := n2_; clear n0_ n1_ n2_; clear ho hb hg hat) | (go_at_call 109; (with_reducible refine (relation_reader_takes.calls k2 gb147 x148000_2 x148001_2 44 t153 t154 t155 w _ ?side1 ?side2 A35.out).mono ?_); (case side1 => repeat (first | (with_reducible first | exact HI147.out | apply IsS135.alloc | apply IsS135.drewN | apply IsS135.drew | apply IsS135.set_0 | apply IsS135.set_1) | exact HI147.out)); (case side2 => repeat (first | (with_reducible first | exact HB.out | apply below_alloc | apply pw_below_drewN | apply below_drew1 | refine below_set ?_ (IsS135.ge HI147.out)) | exact HB.out)); rintro e w38 ⟨rfl, hi, hb, hk⟩; have n0_ := Aside0.mk (Kd.S_mono (Kd.S_keep (IsS135.apartS (show IsS135 w _ gb147 x148000_2 x148001_2 from by repeat (first | (with_reducible first | exact HI147.out | apply IsS135.alloc | apply IsS135.drewN | apply IsS135.drew | apply IsS135.set_0 | apply IsS135.set_1) | exact HI147.out)) (Sq HO152.out) (by decide)) hk (fun _ h => h.2)) (fun _ h => h.1)); have n1_ := Aside0.mk (hb); have n2_ := Aside0.mk (hi); clear HO152; clear HB; clear HI147; have HO152 := n0_; have HB := n1_; have HI147 := n2_; clear n0_ n1_ n2_; (try clear hb); (try clear hb2); (try clear hk); (try clear hi)))
         go_roundg k2
         case measure => have := HK1.out; have := HK2.out; omega
         case rel => exact ⟨(y150), (t153), (t154), (t155), (by first | rfl | (simp; done) | (simp [*]; done)), H', ⟨by have := HK1.out; have := HK2.out; omega⟩, ⟨by (with_reducible repeat (first | apply Kd.S_alloc | apply Kd.S_drewN | apply Kd.S_drew)); exact HO152.out⟩, ⟨by repeat (first | (with_reducible first | exact HI147.out | apply IsS135.alloc | apply IsS135.drewN | apply IsS135.drew | apply IsS135.set_0 | apply IsS135.set_1) | exact HI147.out)⟩, ⟨by repeat (first | (with_reducible first | exact HB.out | apply below_alloc | apply pw_below_drewN | apply below_drew1 | refine below_set ?_ (IsS135.ge HI147.out)) | exact HB.out)⟩⟩
        ·rw [if_neg c34] at H
         exact absurd H (by simp)
    ·replace c11 := Bool.eq_false_iff.mpr c11
     subst c11
     have H1 : (if x148001_1 < (a0.size : Int) then (some (([] : List (List (S46))), 220, x148001_1)) else (some (x8_1, 0, 0))) = some (r1, r2, r3) := by rw [if_neg (show ¬ (false = true) by decide)] at H; exact H
     clear H
     have H := H1
     clear H1
     by_cases c39 : x148001_1 < (a0.size : Int)
     ·rw [if_pos c39] at H
      have c39b0 : decide (x148001_1 < (a0.size : Int)) = true := decide_eq_true c39
      clear c39
      simp only [Option.some.injEq, Prod.mk.injEq] at H
      obtain ⟨rfl, rfl, rfl⟩ := H
      obtain ⟨HGz40, hgz40⟩ := HI147.out
      have hcz40_0 := cellS135_0 HGz40
      have hcz40_1 := cellS135_1 HGz40
      have hfz40_0 := blk_frozen HGz40 0
      have hfz40_1 := blk_frozen HGz40 1
      clear HGz40 hgz40
      go_wp2
      repeat (go_quiet (fail); try go_wp2)
      go_ret3
      exact ⟨_, by first | rfl | (simp [errW_none, errW_some] <;> rfl) | (simp [*, errW_none, errW_some] <;> rfl) | (simp [errW_none, errW_some, Go.Proofs.YtmocooihkobdjaaDoor.listNe]; done), by first | exact Kd.S_nil _ _ _ _ _ | exact Kd.N_nil _ _ _ _ _ | exact Kd.V_nil _ _ _ _ _ | exact Kd.Q_nil _ _ _ _ _ | exact Kd.R_nil _ _ _ _ _, by repeat (first | (with_reducible first | exact HB.out | apply below_alloc | apply pw_below_drewN | apply below_drew1 | refine below_set ?_ (IsS135.ge HI147.out)) | exact HB.out)⟩
     ·rw [if_neg c39] at H
      have c39b0 : decide (x148001_1 < (a0.size : Int)) = false := decide_eq_false c39
      clear c39
      simp only [Option.some.injEq, Prod.mk.injEq] at H
      obtain ⟨rfl, rfl, rfl⟩ := H
      obtain ⟨HGz41, hgz41⟩ := HI147.out
      have hcz41_0 := cellS135_0 HGz41
      have hcz41_1 := cellS135_1 HGz41
      have hfz41_0 := blk_frozen HGz41 0
      have hfz41_1 := blk_frozen HGz41 1
      clear HGz41 hgz41
      go_wp2
      go_ret3
      exact ⟨_, by first | rfl | (simp [errW_none, errW_some] <;> rfl) | (simp [*, errW_none, errW_some] <;> rfl) | (simp [errW_none, errW_some, Go.Proofs.YtmocooihkobdjaaDoor.listNe]; done), by (with_reducible repeat (first | apply Kd.S_alloc | apply Kd.S_drewN | apply Kd.S_drew)); exact HO_8.out, by repeat (first | (with_reducible first | exact HB.out | apply below_alloc | apply pw_below_drewN | apply below_drew1 | refine below_set ?_ (IsS135.ge HI147.out)) | exact HB.out)⟩
end Go.Proofs.YtmocooihkobdjaaDoor.T
end
section
namespace Go.Proofs.YtmocooihkobdjaaDoor.T
open Go.RowKit Go.Proofs.YtmocooihkobdjaaDoorW.PrintWords Go.Proofs.YtmocooihkobdjaaDoorW.PrintLast Go.Proofs.YtmocooihkobdjaaDoorW.PrintMore
attribute [local go_sem] max2_int min2_int max_two min_two max_three min_three max_four min_four
set_option linter.unusedVariables false
set_option linter.unusedSimpArgs false
def relation_Read.f (k : Nat) (a0 : ByteArray) : Option ((List (List (S46))) × Int × Int) := (relation_read.f k a0 true).bind fun bt169 => (some (bt169.1, bt169.2.1, bt169.2.2))
theorem relation_Read.mono : ∀ a0 k, LeO (relation_Read.f k a0) (relation_Read.f (k + 1) a0) := by
 intro a0 k
 unfold relation_Read.f
 repeat' first
   | (with_reducible exact relation_read.mono _ _ _)
   | (with_reducible exact LeO.refl _)
   | (with_reducible exact LeO.none _)
   | (with_reducible refine LeO.ite ?_ ?_)
   | (with_reducible refine LeO.bind ?_ (fun _ => ?_))
   | exact relation_read.mono _ _ _
   | exact LeO.none _
   | refine LeO.ite ?_ ?_
   | refine LeO.bind ?_ (fun _ => ?_)
set_option maxHeartbeats 8000000 in
set_option maxRecDepth 100000 in
theorem relation_Read.calls (k : Nat) (a0 : ByteArray) (r1 : List (List (S46))) (r2 : Int) (r3 : Int) (w : World) (hG : GG w) (h : relation_Read.f k a0 = some (r1, r2, r3)) :
  Calls Tryd.prog 67 #[.string a0] w fun e w' => ∃ v0_ : Value, e = .returned (.tuple #[v0_, .int .i64 r2, .int .i64 r3]) ∧ Kd.S (Kd.slice 46 k46) 23 w' w.heap.size (fun _ => True) v0_ r1 ∧ Below w.heap.size w w' := by
 have HB := Aside0.mk (Below.refl w.heap.size w)
 have HG := Aside0.mk hG
 clear hG
 have H : ((relation_read.f k a0 true).bind fun bt169 => (some (bt169.1, bt169.2.1, bt169.2.2))) = some (r1, r2, r3) := h
 clear h
 replace H := Option.bind_eq_some_iff.mp H
 obtain ⟨⟨t169, t170, t171⟩, A20, H⟩ := H
 replace H : (some (t169, t170, t171)) = some (r1, r2, r3) := H
 have A2 := Aside0.mk A20
 clear A20
 simp only [Option.some.injEq, Prod.mk.injEq] at H
 obtain ⟨rfl, rfl, rfl⟩ := H
 go_enter Tryd.func67, Tryd.ntmps67
 go_wp2_with (first | ((with_reducible refine gate_callee (f := 88) rfl ?_); refine goesL_ (some 6) rfl rfl Tryd.func88 (by kernel_rfl) rfl #[.string a0, .bool true] rfl (by (try simp only [List.map_toArray, List.map_cons, List.map_nil]); first | done | rfl | (simp only [List.length_drop, List.length_take]; rfl) | (simp; done)) ?_; (with_reducible refine (relation_read.calls k a0 true t169 t170 t171 _ ?side1 A2.out).mono ?_); (case side1 => exact GG.below HG.out (W0 HB.out)); rintro e w3 ⟨v172, rfl, ho0, hb⟩; refine ⟨_, rfl, ?_⟩; have n0_ := Aside0.mk (Kd.S_lower ho0 (below_size (W0 HB.out))); have n1_ := Aside0.mk (below_step (W0 HB.out) hb); clear HB; have HO173 := n0_; have HB := n1_; clear n0_ n1_; (try clear hb); (try clear hb2); (try clear hk); (try clear hi); (try clear ho0)))
 go_ret3
 exact ⟨_, by first | rfl | (simp [errW_none, errW_some] <;> rfl) | (simp [*, errW_none, errW_some] <;> rfl) | (simp [errW_none, errW_some, Go.Proofs.YtmocooihkobdjaaDoor.listNe]; done), by (with_reducible repeat (first | apply Kd.S_alloc | apply Kd.S_drewN | apply Kd.S_drew)); exact HO173.out, by repeat (first | (with_reducible first | exact HB.out | apply below_alloc | apply pw_below_drewN | apply below_drew1) | exact HB.out)⟩
end Go.Proofs.YtmocooihkobdjaaDoor.T
end
section
namespace Go.Proofs.YtmocooihkobdjaaDoor.T
open Go.RowKit Go.Proofs.YtmocooihkobdjaaDoorW.PrintWords Go.Proofs.YtmocooihkobdjaaDoorW.PrintLast Go.Proofs.YtmocooihkobdjaaDoorW.PrintMore
attribute [local go_sem] max2_int min2_int max_two min_two max_three min_three max_four min_four
set_option linter.unusedVariables false
set_option linter.unusedSimpArgs false
def relation_ReadList.l0 : Nat → Int → Int → List (S46) → List (List (S46)) → Int → Int → Option ((List (S46)) × Int × Int)
 | 0, _, _, _, _, _, _ => none
 | k + 1, x6, x7, x8, x17, x18, x19 => if x19 < x18 then (if 0 ≤ x19 then (if x19 < (x17.length : Int) then (if x8.length + (rd_L3 x17 x19).length < 3518437208883 then (relation_ReadList.l0 k x6 x7 (x8 ++ (rd_L3 x17 x19)) x17 x18 (wrap64 (x19 + 1))) else (none)) else (none)) else (none)) else (some (x8, x6, x7))
def relation_ReadList.f (k : Nat) (a0 : ByteArray) : Option ((List (S46)) × Int × Int) := (relation_read.f k a0 false).bind fun bt174 => (relation_ReadList.l0 k bt174.2.1 bt174.2.2 ([] : List (S46)) bt174.1 (bt174.1.length : Int) 0)
theorem relation_ReadList.mono_l : ∀ k, (∀ y0 y1 y2 y3 y4 y5, LeO (relation_ReadList.l0 k y0 y1 y2 y3 y4 y5) (relation_ReadList.l0 (k + 1) y0 y1 y2 y3 y4 y5))
 | 0 => fun _ _ _ _ _ _ r h => by simp [relation_ReadList.l0] at h
 | k + 1 => by
  have ih0 := relation_ReadList.mono_l k
  ·intro y0 y1 y2 y3 y4 y5
   unfold relation_ReadList.l0
   repeat' first
   | (with_reducible exact ih0 _ _ _ _ _ _)
   | (with_reducible exact relation_read.mono _ _ _)
   | (with_reducible exact LeO.refl _)
   | (with_reducible exact LeO.none _)
   | (with_reducible refine LeO.ite ?_ ?_)
   | (with_reducible refine LeO.bind ?_ (fun _ => ?_))
   | exact ih0 _ _ _ _ _ _
   | exact relation_read.mono _ _ _
   | exact LeO.none _
   | refine LeO.ite ?_ ?_
   | refine LeO.bind ?_ (fun _ => ?_)
theorem relation_ReadList.mono : ∀ a0 k, LeO (relation_ReadList.f k a0) (relation_ReadList.f (k + 1) a0) := by
 intro a0 k
 have ih0 := relation_ReadList.mono_l k
 unfold relation_ReadList.f
 repeat' first
   | (with_reducible exact ih0 _ _ _ _ _ _)
   | (with_reducible exact relation_read.mono _ _ _)
   | (with_reducible exact LeO.refl _)
   | (with_reducible exact LeO.none _)
   | (with_reducible refine LeO.ite ?_ ?_)
   | (with_reducible refine LeO.bind ?_ (fun _ => ?_))
   | exact ih0 _ _ _ _ _ _
   | exact relation_read.mono _ _ _
   | exact LeO.none _
   | refine LeO.ite ?_ ?_
   | refine LeO.bind ?_ (fun _ => ?_)
set_option maxHeartbeats 8000000 in
set_option maxRecDepth 100000 in
theorem relation_ReadList.calls (k : Nat) (a0 : ByteArray) (r1 : List (S46)) (r2 : Int) (r3 : Int) (w : World) (hG : GG w) (h : relation_ReadList.f k a0 = some (r1, r2, r3)) :
  Calls Tryd.prog 68 #[.string a0] w fun e w' => ∃ v0_ : Value, e = .returned (.tuple #[v0_, .int .i64 r2, .int .i64 r3]) ∧ Kd.R k46 46 w' w.heap.size (fun _ => True) v0_ r1 ∧ Below w.heap.size w w' := by
 have HB := Aside0.mk (Below.refl w.heap.size w)
 have HG := Aside0.mk hG
 clear hG
 have H : ((relation_read.f k a0 false).bind fun bt174 => (relation_ReadList.l0 k bt174.2.1 bt174.2.2 ([] : List (S46)) bt174.1 (bt174.1.length : Int) 0)) = some (r1, r2, r3) := h
 clear h
 replace H := Option.bind_eq_some_iff.mp H
 obtain ⟨⟨t174, t175, t176⟩, A20, H⟩ := H
 replace H : (relation_ReadList.l0 k t175 t176 ([] : List (S46)) t174 (t174.length : Int) 0) = some (r1, r2, r3) := H
 have A2 := Aside0.mk A20
 clear A20
 have H' := Aside0.mk H
 clear H
 go_enter Tryd.func68, Tryd.ntmps68
 go_wp2_with (first | ((with_reducible refine gate_callee (f := 88) rfl ?_); refine goesL_ (some 13) rfl rfl Tryd.func88 (by kernel_rfl) rfl #[.string a0, .bool false] rfl (by (try simp only [List.map_toArray, List.map_cons, List.map_nil]); first | done | rfl | (simp only [List.length_drop, List.length_take]; rfl) | (simp; done)) ?_; (with_reducible refine (relation_read.calls k a0 false t174 t175 t176 _ ?side1 A2.out).mono ?_); (case side1 => exact GG.below HG.out (W0 HB.out)); rintro e w3 ⟨v177, rfl, ho0, hb⟩; refine ⟨_, rfl, ?_⟩; have n0_ := Aside0.mk (Kd.S_lower ho0 (below_size (W0 HB.out))); have n1_ := Aside0.mk (below_step (W0 HB.out) hb); clear HB; have HO178 := n0_; have HB := n1_; clear n0_ n1_; (try clear hb); (try clear hb2); (try clear hk); (try clear hi); (try clear ho0); obtain ⟨Ao4, co4, eo4⟩ := Kd.S_slice HO178.out; subst eo4))
 go_loopg [8, 19] k (fun kq v8 v19 w' => ∃ (x8_1 : List (S46)) (x19_1 : Int), v19 = .int .i64 x19_1 ∧ Aside0 (relation_ReadList.l0 kq t175 t176 x8_1 t174 (t174.length : Int) x19_1 = some (r1, r2, r3)) ∧ Aside0 (kq ≤ k) ∧ Aside0 (Kd.R k46 46 w' w.heap.size (fun _ => True) v8 x8_1) ∧ Aside0 (Kd.S (Kd.slice 46 k46) 23 w' w.heap.size (fun k_ => some k_ ≠ (v8 : Value).ownBlock) (.slice Ao4 t174.length co4) t174) ∧ Aside0 (Below w.heap.size w w'))
 case atStart => exact ⟨(([] : List (S46))), (0), (by first | rfl | (simp; done) | (simp [*]; done)), H', ⟨Nat.le_refl _⟩, ⟨by first | exact Kd.R_nil _ _ _ _ _ | exact Kd.N_nil _ _ _ _ _ | exact Kd.V_nil _ _ _ _ _ | exact Kd.Q_nil _ _ _ _ _ | exact Kd.S_nil _ _ _ _ _⟩, ⟨by (with_reducible repeat (first | apply Kd.S_alloc | apply Kd.S_drewN | apply Kd.S_drew)); exact Kd.S_mono HO178.out (fun _ hk => (by simp [Value.ownBlock]))⟩, ⟨by repeat (first | (with_reducible first | exact HB.out | apply below_alloc | apply pw_below_drewN | apply below_drew1) | exact HB.out)⟩⟩
 case round =>
  clear H'
  try clear p2
  obtain ⟨x8_1, x19_1, rfl, HA, HK1, HO_8, HO_17, HB⟩ := hrel
  cases gk with
  | zero => exact absurd HA.out (by simp [relation_ReadList.l0])
  | succ k1 =>
   have H := HA.out
   clear HA
   simp only [relation_ReadList.l0] at H
   by_cases c5 : x19_1 < (t174.length : Int)
   ·rw [if_pos c5] at H
    have c5b0 : decide (x19_1 < (t174.length : Int)) = true := decide_eq_true c5
    clear c5
    by_cases c6 : 0 ≤ x19_1
    ·rw [if_pos c6] at H
     have c6b0 : decide (0 ≤ x19_1) = true := decide_eq_true c6
     clear c6
     by_cases c7 : x19_1 < (t174.length : Int)
     ·rw [if_pos c7] at H
      have c7b0 : decide (x19_1 < (t174.length : Int)) = true := decide_eq_true c7
      clear c7
      by_cases c8 : x8_1.length + (rd_L3 t174 x19_1).length < 3518437208883
      ·rw [if_pos c8] at H
       have LMc8 := Aside0.mk c8
       clear c8
       obtain ⟨y180, hy180⟩ : ∃ y_ : List (S46), y_ = (x8_1 ++ (rd_L3 t174 x19_1)) := ⟨_, rfl⟩
       replace H : (relation_ReadList.l0 k1 t175 t176 y180 t174 (t174.length : Int) (wrap64 (x19_1 + 1))) = some (r1, r2, r3) := by first | (rw [hy180]; with_reducible exact H) | (have H2_ := (Option.bind_some _ _).symm.trans H; rw [hy180]; with_reducible exact H2_) | (have H2_ := (Option.bind_some _ _).symm.trans H; with_reducible exact H2_) | with_reducible exact H | (rw [hy180]; exact H) | exact H
       have Ny180 := Aside0.mk hy180
       clear hy180
       have H' := Aside0.mk H
       clear H
       have p179 : 0 ≤ (x19_1 : Int) := of_decide_eq_true (by first | (with_reducible assumption) | assumption)
       have q179 : x19_1 < (t174.length : Int) := of_decide_eq_true (by first | (with_reducible assumption) | assumption)
       obtain ⟨ad179, A179_0, c179_0, e179, hx179_0, hl179_0, hi179_0⟩ := at_L3 (Kd.S_reads' HO_17.out).2.2 x19_1 p179 q179
       cases e179
       obtain ⟨ce179, hce179, hMe179, hcc179⟩ := Kd.S_get HO_17.out [] x19_1 p179 (by first | exact q179 | exact of_decide_eq_true (by first | (with_reducible assumption) | assumption) | (have e_ := (Kd.S_reads' HO_17.out).1; omega))
       obtain ⟨ve179_0, rfl, ge179_0⟩ := hMe179
       have hv179_0 := hcc179 0 _ rfl
       rw [Nat.add_zero, show ((Kd.slice 46 k46)).sz = 1 from rfl, Nat.mul_one] at hv179_0
       replace hv179_0 := Option.some.inj (hv179_0.symm.trans hx179_0)
       rw [hv179_0] at ge179_0
       have HL179_0 := Aside0.mk (show Kd.R k46 46 _ _ _ _ (rd_L3 t174 x19_1) from ge179_0)
       clear hv179_0 ge179_0
       clear hcc179 hce179
       have HR179_0 := Aside0.mk hi179_0
       have HC179_0 := Aside0.mk hl179_0
       clear hi179_0 hl179_0
       replace p179 := eq_true p179
       replace q179 := eq_true q179
       go_wp2_with (first | ((with_reducible refine gate_builtin (b := .append) (xs := #[.tmp 23, .tmp 24]) rfl ?_); at_builtin; refine Kd.R_append_rows k46 (w0 := w) w.heap.size rfl (.tmp 23) (.tmp 24) 23 46 (.agg #[(.string ⟨#[]⟩), (.int .i64 0), (.string ⟨#[]⟩)]) 40 rfl Tryd.underlying23 info46 rfl (by decide) (by omega) u8 x8_1 (rd_L3 t174 x19_1) _ _ _ (fun _ => True) (fun _ => False) rfl rfl ?aO ?aR (fun _ _ h => h) (fun _ h => h.elim) ?aF ?aB ?aS ?aL ?_; (case aR => repeat (first | exact (by repeat (first | (with_reducible exact HR179_0.out) | (with_reducible refine Kd.C_alloc ?_ _) | (with_reducible refine Kd.C_drewN ?_ _) | (with_reducible refine Kd.C_drew ?_) | exact HR179_0.out)) | (with_reducible refine Kd.C_alloc ?_ _) | (with_reducible refine Kd.C_drewN ?_ _) | (with_reducible refine Kd.C_drew ?_))); (case aB => exact (W0 HB.out)); (case aF => exact (fun _ _ => trivial)); (case aO => exact (Rq HO_8.out)); (case aS => exact (below_size (W0 HB.out))); (case aL => have := LMc8.out; omega); intro v181 w9 ho hb hg hat; rw [← Ny180.out] at ho; have n0_ := Aside0.mk (Kd.S_after (ok := (fun _ => True)) (by (with_reducible repeat (first | apply Kd.S_alloc | apply Kd.S_drewN | apply Kd.S_drew)); exact Kd.S_mono HO_17.out (fun _ hk => ⟨trivial, hk⟩)) hg hat); have n1_ := Aside0.mk (Kd.R_after (ok := (fun k_ => some k_ ≠ (.slice (some ad179) t174.length co4 : Value).ownBlock)) (by (with_reducible repeat (first | apply Kd.R_alloc | apply Kd.R_drewN | apply Kd.R_drew)); exact Kd.R_mono HL179_0.out (fun _ hk => ⟨hk.2, hk.1⟩)) hg hat); have n2_ := Aside0.mk (hb); have n3_ := Aside0.mk (ho); clear HO_17; clear HL179_0; clear HB; clear HO_8; have HO_17 := n0_; have HL179_0 := n1_; have HB := n2_; have HO182 := n3_; clear n0_ n1_ n2_ n3_; clear ho hb hg hat))
       go_roundg k1
       case measure => have := HK1.out; omega
       case rel => exact ⟨(y180), (wrap64 (x19_1 + 1)), (by first | rfl | (simp; done) | (simp [*]; done)), H', ⟨by have := HK1.out; omega⟩, ⟨by (with_reducible repeat (first | apply Kd.R_alloc | apply Kd.R_drewN | apply Kd.R_drew)); exact HO182.out⟩, ⟨by (with_reducible repeat (first | apply Kd.S_alloc | apply Kd.S_drewN | apply Kd.S_drew)); exact Kd.S_mono HO_17.out (fun _ hk => hk.2)⟩, ⟨by repeat (first | (with_reducible first | exact HB.out | apply below_alloc | apply pw_below_drewN | apply below_drew1) | exact HB.out)⟩⟩
      ·rw [if_neg c8] at H
       exact absurd H (by simp)
     ·rw [if_neg c7] at H
      exact absurd H (by simp)
    ·rw [if_neg c6] at H
     exact absurd H (by simp)
   ·rw [if_neg c5] at H
    have c5b0 : decide (x19_1 < (t174.length : Int)) = false := decide_eq_false c5
    clear c5
    simp only [Option.some.injEq, Prod.mk.injEq] at H
    obtain ⟨rfl, rfl, rfl⟩ := H
    go_wp2
    go_ret3
    exact ⟨_, by first | rfl | (simp [errW_none, errW_some] <;> rfl) | (simp [*, errW_none, errW_some] <;> rfl) | (simp [errW_none, errW_some, Go.Proofs.YtmocooihkobdjaaDoor.listNe]; done), by (with_reducible repeat (first | apply Kd.R_alloc | apply Kd.R_drewN | apply Kd.R_drew)); exact HO_8.out, by repeat (first | (with_reducible first | exact HB.out | apply below_alloc | apply pw_below_drewN | apply below_drew1) | exact HB.out)⟩
end Go.Proofs.YtmocooihkobdjaaDoor.T
end
section
namespace Go.Proofs.YtmocooihkobdjaaDoor.T
open Go.RowKit Go.Proofs.YtmocooihkobdjaaDoorW.PrintWords Go.Proofs.YtmocooihkobdjaaDoorW.PrintLast Go.Proofs.YtmocooihkobdjaaDoorW.PrintMore
attribute [local go_sem] max2_int min2_int max_two min_two max_three min_three max_four min_four
set_option linter.unusedVariables false
set_option linter.unusedSimpArgs false
def strings_shouldUseASCIISet.f (a0 : Int) : Option (Bool) := some (decide (a0 > 8))
set_option maxHeartbeats 8000000 in
set_option maxRecDepth 100000 in
theorem strings_shouldUseASCIISet.calls (a0 : Int) (r : Bool) (w : World) (h : strings_shouldUseASCIISet.f a0 = some r) :
  Calls Tryd.prog 87 #[.int .i64 a0] w fun e w' => e = .returned (.bool r) ∧ Drawn0 w w' := by
 have H : (some (decide (a0 > 8))) = some r := h
 clear h
 obtain rfl := Option.some.inj H
 go_enter Tryd.func87, Tryd.ntmps87
 go_wp2
 go_ret
 exact ⟨by first | rfl | (simp; done) | (simp [*]; done), by repeat (first | exact Drawn0.refl _ | apply Drawn0.step)⟩
end Go.Proofs.YtmocooihkobdjaaDoor.T
end
section
namespace Go.Proofs.YtmocooihkobdjaaDoor.T
open Go.RowKit Go.Proofs.YtmocooihkobdjaaDoorW.PrintWords Go.Proofs.YtmocooihkobdjaaDoorW.PrintLast Go.Proofs.YtmocooihkobdjaaDoorW.PrintMore
attribute [local go_sem] max2_int min2_int max_two min_two max_three min_three max_four min_four
set_option linter.unusedVariables false
set_option linter.unusedSimpArgs false
def strings_IndexByte.f (a0 : ByteArray) (a1 : Int) : Option (Int) := (stringslite_IndexByte.f a0 a1).bind fun t183 => (some t183)
set_option maxHeartbeats 8000000 in
set_option maxRecDepth 100000 in
theorem strings_IndexByte.calls (a0 : ByteArray) (a1 : Int) (r : Int) (w : World) (h : strings_IndexByte.f a0 a1 = some r) :
  Calls Tryd.prog 103 #[.string a0, .int .u8 a1] w fun e w' => e = .returned (.int .i64 r) ∧ Drawn0 w w' := by
 have H : ((stringslite_IndexByte.f a0 a1).bind fun t183 => (some t183)) = some r := h
 clear h
 replace H := Option.bind_eq_some_iff.mp H
 obtain ⟨t183, A30, H⟩ := H
 replace H : (some t183) = some r := H
 have A3 := Aside0.mk A30
 clear A30
 obtain rfl := Option.some.inj H
 go_enter Tryd.func103, Tryd.ntmps103
 go_wp2_with (first | ((with_reducible refine gate_callee (f := 117) rfl ?_); refine goesL_ (some 7) rfl rfl Tryd.func117 (by kernel_rfl) rfl #[.string a0, .int .u8 a1] rfl (by (try simp only [List.map_toArray, List.map_cons, List.map_nil]); first | done | rfl | (simp only [List.length_drop, List.length_take]; rfl) | (simp; done)) ?_; (with_reducible refine (stringslite_IndexByte.calls a0 a1 t183 _ A3.out).mono ?_); rintro e w' ⟨rfl, ⟨nd, rfl⟩⟩; refine ⟨_, rfl, ?_⟩))
 go_ret
 exact ⟨by first | rfl | (simp; done) | (simp [*]; done), by repeat (first | exact Drawn0.refl _ | apply Drawn0.step)⟩
end Go.Proofs.YtmocooihkobdjaaDoor.T
end
section
namespace Go.Proofs.YtmocooihkobdjaaDoor.T
open Go.RowKit Go.Proofs.YtmocooihkobdjaaDoorW.PrintWords Go.Proofs.YtmocooihkobdjaaDoorW.PrintLast Go.Proofs.YtmocooihkobdjaaDoorW.PrintMore
attribute [local go_sem] max2_int min2_int max_two min_two max_three min_three max_four min_four
set_option linter.unusedVariables false
set_option linter.unusedSimpArgs false
def utf8_ValidRune.j0 : Nat → Int → Bool → Option (Bool)
 | 0, _, _ => none
 | k + 1, x0, x3 => if x3 = true then (some true) else (if 57343 < x0 then (if x0 ≤ 1114111 then (some true) else (some false)) else (some false))
def utf8_ValidRune.f (k : Nat) (a0 : Int) : Option (Bool) := if 0 ≤ a0 then (utf8_ValidRune.j0 k a0 (decide (a0 < 55296))) else (utf8_ValidRune.j0 k a0 false)
theorem utf8_ValidRune.mono_l : ∀ k, (∀ y0 y1, LeO (utf8_ValidRune.j0 k y0 y1) (utf8_ValidRune.j0 (k + 1) y0 y1))
 | 0 => fun _ _ r h => by simp [utf8_ValidRune.j0] at h
 | k + 1 => by
  have ih0 := utf8_ValidRune.mono_l k
  ·intro y0 y1
   unfold utf8_ValidRune.j0
   repeat' first
   | (with_reducible exact ih0 _ _)
   | (with_reducible exact LeO.refl _)
   | (with_reducible exact LeO.none _)
   | (with_reducible refine LeO.ite ?_ ?_)
   | (with_reducible refine LeO.bind ?_ (fun _ => ?_))
   | exact ih0 _ _
   | exact LeO.none _
   | refine LeO.ite ?_ ?_
   | refine LeO.bind ?_ (fun _ => ?_)
theorem utf8_ValidRune.mono : ∀ a0 k, LeO (utf8_ValidRune.f k a0) (utf8_ValidRune.f (k + 1) a0) := by
 intro a0 k
 have ih0 := utf8_ValidRune.mono_l k
 unfold utf8_ValidRune.f
 repeat' first
   | (with_reducible exact ih0 _ _)
   | (with_reducible exact LeO.refl _)
   | (with_reducible exact LeO.none _)
   | (with_reducible refine LeO.ite ?_ ?_)
   | (with_reducible refine LeO.bind ?_ (fun _ => ?_))
   | exact ih0 _ _
   | exact LeO.none _
   | refine LeO.ite ?_ ?_
   | refine LeO.bind ?_ (fun _ => ?_)
set_option maxHeartbeats 8000000 in
set_option maxRecDepth 100000 in
theorem utf8_ValidRune.calls (k : Nat) (a0 : Int) (r : Bool) (w : World) (h : utf8_ValidRune.f k a0 = some r) :
  Calls Tryd.prog 104 #[.int .i32 a0] w fun e w' => e = .returned (.bool r) ∧ Drawn0 w w' := by
 have H : (if 0 ≤ a0 then (utf8_ValidRune.j0 k a0 (decide (a0 < 55296))) else (utf8_ValidRune.j0 k a0 false)) = some r := h
 clear h
 have HC2 := Aside0.mk H
 clear H
 go_enter Tryd.func104, Tryd.ntmps104
 go_upto_region 1 with (fail)
 go_cut [3] (fun v3 wc => ∃ (kq : Nat) (x3_1 : Bool), v3 = .bool x3_1 ∧ Aside0 (utf8_ValidRune.j0 kq a0 x3_1 = some r) ∧ Aside0 (kq ≤ k) ∧ Drawn0 w wc)
 case first =>
  have H := HC2.out
  clear HC2
  by_cases c3 : 0 ≤ a0
  ·rw [if_pos c3] at H
   have c3b0 : decide (0 ≤ a0) = true := decide_eq_true c3
   clear c3
   (first | rw [c3b0] | (simp only [i64_w, i32_w]; rw [c3b0]) | skip)
   have H' := Aside0.mk H
   clear H
   go_wp2
   go_meet
   case rel => exact ⟨_, (decide (a0 < 55296)), (by first | rfl | (simp; done) | (simp [*]; done)), H', ⟨by first | omega | exact Nat.le_refl _⟩, by repeat (first | exact Drawn0.refl _ | apply Drawn0.step)⟩
  ·rw [if_neg c3] at H
   have c3b0 : decide (0 ≤ a0) = false := decide_eq_false c3
   clear c3
   (first | rw [c3b0] | (simp only [i64_w, i32_w]; rw [c3b0]) | skip)
   have H' := Aside0.mk H
   clear H
   go_wp2
   go_meet
   case rel => exact ⟨_, (false), (by first | rfl | (simp; done) | (simp [*]; done)), H', ⟨by first | omega | exact Nat.le_refl _⟩, by repeat (first | exact Drawn0.refl _ | apply Drawn0.step)⟩
 case rest =>
  clear HC2
  try clear c1
  try clear p2
  try clear c3
  try clear c3b0
  obtain ⟨kq, x3_1, rfl, HA, HJ1, ⟨mc1, rfl⟩⟩ := hcut
  cases kq with
  | zero => exact absurd HA.out (by simp [utf8_ValidRune.j0])
  | succ kj1 =>
   have H := HA.out
   clear HA
   simp only [utf8_ValidRune.j0] at H
   by_cases c4 : x3_1 = true
   ·subst c4
    have H1 : (some true) = some r := by rw [if_pos rfl] at H; exact H
    clear H
    have H := H1
    clear H1
    obtain rfl := Option.some.inj H
    go_wp2
    go_ret
    exact ⟨by first | rfl | (simp; done) | (simp [*]; done), by repeat (first | exact Drawn0.refl _ | apply Drawn0.step)⟩
   ·replace c4 := Bool.eq_false_iff.mpr c4
    subst c4
    have H1 : (if 57343 < a0 then (if a0 ≤ 1114111 then (some true) else (some false)) else (some false)) = some r := by rw [if_neg (show ¬ (false = true) by decide)] at H; exact H
    clear H
    have H := H1
    clear H1
    by_cases c5 : 57343 < a0
    ·rw [if_pos c5] at H
     have c5b0 : decide (57343 < a0) = true := decide_eq_true c5
     clear c5
     by_cases c6 : a0 ≤ 1114111
     ·rw [if_pos c6] at H
      have c6b0 : decide (a0 ≤ 1114111) = true := decide_eq_true c6
      clear c6
      obtain rfl := Option.some.inj H
      go_wp2
      go_ret
      exact ⟨by first | rfl | (simp; done) | (simp [*]; done), by repeat (first | exact Drawn0.refl _ | apply Drawn0.step)⟩
     ·rw [if_neg c6] at H
      have c6b0 : decide (a0 ≤ 1114111) = false := decide_eq_false c6
      clear c6
      obtain rfl := Option.some.inj H
      go_wp2
      go_ret
      exact ⟨by first | rfl | (simp; done) | (simp [*]; done), by repeat (first | exact Drawn0.refl _ | apply Drawn0.step)⟩
    ·rw [if_neg c5] at H
     have c5b0 : decide (57343 < a0) = false := decide_eq_false c5
     clear c5
     obtain rfl := Option.some.inj H
     go_wp2
     go_ret
     exact ⟨by first | rfl | (simp; done) | (simp [*]; done), by repeat (first | exact Drawn0.refl _ | apply Drawn0.step)⟩
end Go.Proofs.YtmocooihkobdjaaDoor.T
end
