/- A part of the proof: the texts of this claim, packed by a program of this session (wip/pack.py). -/
import Derived.Test.YtmocooihkobdjaaDoorEk1
import Derived.Test.YtmocooihkobdjaaDoorEk3
section
namespace Go.Proofs.YtmocooihkobdjaaDoor.E
open Go.RowKit Go.Proofs.YtmocooihkobdjaaDoorW.PrintWords Go.Proofs.YtmocooihkobdjaaDoorW.PrintLast Go.Proofs.YtmocooihkobdjaaDoorW.PrintMore
attribute [local go_sem] max2_int min2_int max_two min_two max_three min_three max_four min_four
set_option linter.unusedVariables false
set_option linter.unusedSimpArgs false
def depotref24_Join.j0 : Nat → Bool → List (List (S46)) → List (S46) → List (S48) → List (List (S46)) → List (S46) → List (S48) → Option ((List (List (S46))) × (List (S46)) × (List (S48)) × Int)
 | 0, _, _, _, _, _, _, _ => none
 | k + 1, x15, x181000, x181001, x181002, x182000, x182001, x182002 => if x15 = true then (some (([] : List (List (S46))), ([] : List (S46)), ([] : List (S48)), 1)) else ((depotref00_CopyRequest.f k x181000 x181001 x181002).bind fun bt185 => ((depotref00_CopyRequest.f k x182000 x182001 x182002).bind fun bt194 => (if bt185.1.length + bt194.1.length < 5864062014805 then (if bt185.2.1.length + bt194.2.1.length < 3518437208883 then (if bt185.2.2.length + bt194.2.2.length < 2932031007402 then (some ((bt185.1 ++ bt194.1), (bt185.2.1 ++ bt194.2.1), (bt185.2.2 ++ bt194.2.2), 0)) else (none)) else (none)) else (none))))
def depotref24_Join.f (k : Nat) (l0_0 : List (List (S46))) (l0_1 : List (S46)) (l0_2 : List (S48)) (l1_0 : List (List (S46))) (l1_1 : List (S46)) (l1_2 : List (S48)) : Option ((List (List (S46))) × (List (S46)) × (List (S48)) × Int) := (depotref24_Formed.f k l0_0 l0_1 l0_2).bind fun t183 => (if t183 = true then ((depotref24_Formed.f k l1_0 l1_1 l1_2).bind fun t184 => (depotref24_Join.j0 k (!t184) l0_0 l0_1 l0_2 l1_0 l1_1 l1_2)) else (depotref24_Join.j0 k true l0_0 l0_1 l0_2 l1_0 l1_1 l1_2))
theorem depotref24_Join.mono_l : ∀ k, (∀ y0 y1 y2 y3 y4 y5 y6, LeO (depotref24_Join.j0 k y0 y1 y2 y3 y4 y5 y6) (depotref24_Join.j0 (k + 1) y0 y1 y2 y3 y4 y5 y6))
 | 0 => fun _ _ _ _ _ _ _ r h => by simp [depotref24_Join.j0] at h
 | k + 1 => by
  have ih0 := depotref24_Join.mono_l k
  ·intro y0 y1 y2 y3 y4 y5 y6
   unfold depotref24_Join.j0
   repeat' first
   | (with_reducible exact ih0 _ _ _ _ _ _ _)
   | (with_reducible exact depotref00_CopyRequest.mono _ _ _ _)
   | (with_reducible exact depotref24_Formed.mono _ _ _ _)
   | (with_reducible exact LeO.refl _)
   | (with_reducible exact LeO.none _)
   | (with_reducible refine LeO.ite ?_ ?_)
   | (with_reducible refine LeO.bind ?_ (fun _ => ?_))
   | exact ih0 _ _ _ _ _ _ _
   | exact depotref00_CopyRequest.mono _ _ _ _
   | exact depotref24_Formed.mono _ _ _ _
   | exact LeO.none _
   | refine LeO.ite ?_ ?_
   | refine LeO.bind ?_ (fun _ => ?_)
theorem depotref24_Join.mono : ∀ a0 a1 a2 a3 a4 a5 k, LeO (depotref24_Join.f k a0 a1 a2 a3 a4 a5) (depotref24_Join.f (k + 1) a0 a1 a2 a3 a4 a5) := by
 intro a0 a1 a2 a3 a4 a5 k
 have ih0 := depotref24_Join.mono_l k
 unfold depotref24_Join.f
 repeat' first
   | (with_reducible exact ih0 _ _ _ _ _ _ _)
   | (with_reducible exact depotref00_CopyRequest.mono _ _ _ _)
   | (with_reducible exact depotref24_Formed.mono _ _ _ _)
   | (with_reducible exact LeO.refl _)
   | (with_reducible exact LeO.none _)
   | (with_reducible refine LeO.ite ?_ ?_)
   | (with_reducible refine LeO.bind ?_ (fun _ => ?_))
   | exact ih0 _ _ _ _ _ _ _
   | exact depotref00_CopyRequest.mono _ _ _ _
   | exact depotref24_Formed.mono _ _ _ _
   | exact LeO.none _
   | refine LeO.ite ?_ ?_
   | refine LeO.bind ?_ (fun _ => ?_)
def depotref24_Join.T3 : Bool × List (List Nat × List Nat) := (true, [([], []), ([0], [0]), ([], []), ([2, 1], [2]), ([], []), ([], []), ([4, 1, 3, 0, 1, 4, 5], [1, 4]), ([5, 3, 6, 0, 1, 2, 3, 4, 5, 6], [3, 5])])
def depotref24_Join.B3 : List Nat := [0, 1, 0, 7, 0, 0, 63, 127]
theorem depotref24_Join.tab3 : rtab .any (opsOf Tryd.f15 3) = depotref24_Join.T3 := by kernel_rfl
theorem depotref24_Join.bits3 : waitsOk depotref24_Join.T3.2 depotref24_Join.B3 = true := by kernel_rfl
set_option maxHeartbeats 8000000 in
set_option maxRecDepth 100000 in
theorem depotref24_Join.calls (k : Nat) (A0_0 : Option Addr) (c0_0 : Nat) (l0_0 : List (List (S46))) (A0_1 : Option Addr) (c0_1 : Nat) (l0_1 : List (S46)) (A0_2 : Option Addr) (c0_2 : Nat) (l0_2 : List (S48)) (A1_0 : Option Addr) (c1_0 : Nat) (l1_0 : List (List (S46))) (A1_1 : Option Addr) (c1_1 : Nat) (l1_1 : List (S46)) (A1_2 : Option Addr) (c1_2 : Nat) (l1_2 : List (S48)) (r1 : List (List (S46))) (r2 : List (S46)) (r3 : List (S48)) (r4 : Int) (w : World) (hr0_0 : Kd.C (Kd.slice 46 k46) w A0_0 l0_0.length l0_0) (hc0_0 : l0_0.length ≤ c0_0) (hr0_1 : Kd.C k46 w A0_1 l0_1.length l0_1) (hc0_1 : l0_1.length ≤ c0_1) (hr0_2 : Kd.C k48 w A0_2 l0_2.length l0_2) (hc0_2 : l0_2.length ≤ c0_2) (hr1_0 : Kd.C (Kd.slice 46 k46) w A1_0 l1_0.length l1_0) (hc1_0 : l1_0.length ≤ c1_0) (hr1_1 : Kd.C k46 w A1_1 l1_1.length l1_1) (hc1_1 : l1_1.length ≤ c1_1) (hr1_2 : Kd.C k48 w A1_2 l1_2.length l1_2) (hc1_2 : l1_2.length ≤ c1_2) (h : depotref24_Join.f k l0_0 l0_1 l0_2 l1_0 l1_1 l1_2 = some (r1, r2, r3, r4)) :
  Calls Tryd.prog 15 #[.agg #[.slice A0_0 l0_0.length c0_0, .slice A0_1 l0_1.length c0_1, .slice A0_2 l0_2.length c0_2], .agg #[.slice A1_0 l1_0.length c1_0, .slice A1_1 l1_1.length c1_1, .slice A1_2 l1_2.length c1_2]] w fun e w' => ∃ v0_ v1_ v2_ : Value, e = .returned (.tuple #[.agg #[v0_, v1_, v2_], .int .i64 r4]) ∧ Kd.N (Kd.slice 46 k46) 23 w' w.heap.size (fun k_ => (w.heap.size ≤ k_) ∧ some k_ ≠ (v1_ : Value).ownBlock ∧ some k_ ≠ (v2_ : Value).ownBlock) v0_ r1 ∧ Kd.R k46 46 w' w.heap.size (fun k_ => (w.heap.size ≤ k_)) v1_ r2 ∧ Kd.R k48 48 w' w.heap.size (fun k_ => (w.heap.size ≤ k_)) v2_ r3 ∧ Below w.heap.size w w' := by
 have hu26 := Tryd.underlying26
 have HR0_0 := Aside0.mk hr0_0
 have HC0_0 := Aside0.mk hc0_0
 clear hr0_0 hc0_0
 have HR0_1 := Aside0.mk hr0_1
 have HC0_1 := Aside0.mk hc0_1
 clear hr0_1 hc0_1
 have HR0_2 := Aside0.mk hr0_2
 have HC0_2 := Aside0.mk hc0_2
 clear hr0_2 hc0_2
 have HR1_0 := Aside0.mk hr1_0
 have HC1_0 := Aside0.mk hc1_0
 clear hr1_0 hc1_0
 have HR1_1 := Aside0.mk hr1_1
 have HC1_1 := Aside0.mk hc1_1
 clear hr1_1 hc1_1
 have HR1_2 := Aside0.mk hr1_2
 have HC1_2 := Aside0.mk hc1_2
 clear hr1_2 hc1_2
 have HB := Aside0.mk (Below.refl w.heap.size w)
 have H : ((depotref24_Formed.f k l0_0 l0_1 l0_2).bind fun t183 => (if t183 = true then ((depotref24_Formed.f k l1_0 l1_1 l1_2).bind fun t184 => (depotref24_Join.j0 k (!t184) l0_0 l0_1 l0_2 l1_0 l1_1 l1_2)) else (depotref24_Join.j0 k true l0_0 l0_1 l0_2 l1_0 l1_1 l1_2))) = some (r1, r2, r3, r4) := h
 clear h
 have HC3 := Aside0.mk H
 clear H
 go_enter Tryd.func15, Tryd.ntmps15
 go_upto_region 1 with (first | ((with_reducible refine gate_dst (N := 2) rfl ?_); refine box_event ?hg (N := 2) ?hd (cs := #[.slice A0_0 l0_0.length c0_0, .slice A0_1 l0_1.length c0_1, .slice A0_2 l0_2.length c0_2]) (t := 26) ?hr ?_; (case hd => rfl); (case hg => rfl); (case hr => first | (go_simp; done) | (go_simp; rfl)); intro gb180 hg w4 hbox hb; have n0_ := Aside0.mk (below_step (W0 HB.out) hb); have n1_ := Aside0.mk (hbox); have n2_ := Aside0.mk ((by rw [hg]; exact (below_size (W0 HB.out)) : w.heap.size ≤ gb180)); have n3_ := Aside0.mk ((by rw [hg]; exact (below_size (W0 HB.out)) : w.heap.size ≤ gb180)); clear HB; have HB := n0_; have BK180 := n1_; have GW180 := n2_; have GE180 := n3_; clear n0_ n1_ n2_ n3_; clear hb hbox hg) | ((with_reducible refine gate_dst (N := 3) rfl ?_); refine box_event ?hg (N := 3) ?hd (cs := #[.slice A1_0 l1_0.length c1_0, .slice A1_1 l1_1.length c1_1, .slice A1_2 l1_2.length c1_2]) (t := 26) ?hr ?_; (case hd => rfl); (case hg => rfl); (case hr => first | (go_simp; done) | (go_simp; rfl)); intro gb181 hg w5 hbox hb; have n0_ := Aside0.mk (blk_below (g := gb180) (Bq BK180.out) hb); have n1_ := Aside0.mk (below_step (W1 HB.out GE180.out) hb); have n2_ := Aside0.mk (hbox); have n3_ := Aside0.mk ((by rw [hg]; exact (below_size (W1 HB.out GE180.out)) : w.heap.size ≤ gb181)); have n4_ := Aside0.mk ((by rw [hg]; exact (below_size (W1 HB.out GE180.out)) : w.heap.size ≤ gb181)); have n5_ := Aside0.mk ((by rw [hg]; exact Nat.ne_of_lt (blk_lt (g := gb180) (Bq BK180.out)) : gb180 ≠ gb181)); have n6_ := Aside0.mk ((by rw [hg]; exact Nat.ne_of_gt (blk_lt (g := gb180) (Bq BK180.out)) : gb181 ≠ gb180)); clear BK180; clear HB; have BK180 := n0_; have HB := n1_; have BK181 := n2_; have GW181 := n3_; have GE181 := n4_; have NB180_181 := n5_; have NB181_180 := n6_; clear n0_ n1_ n2_ n3_ n4_ n5_ n6_; clear hb hbox hg) | ((with_reducible refine gate_dst (N := 4) rfl ?_); refine box_event ?hg (N := 4) ?hd (cs := #[.slice none 0 0, .slice none 0 0, .slice none 0 0]) (t := 26) ?hr ?_; (case hd => rfl); (case hg => rfl); (case hr => first | (go_simp; done) | (go_simp; rfl)); intro gb182 hg w6 hbox hb; have n0_ := Aside0.mk (blk_below (g := gb180) (Bq BK180.out) hb); have n1_ := Aside0.mk (blk_below (g := gb181) (Bq BK181.out) hb); have n2_ := Aside0.mk (below_step (W2 HB.out GE180.out GE181.out) hb); have n3_ := Aside0.mk (hbox); have n4_ := Aside0.mk ((by rw [hg]; exact (below_size (W2 HB.out GE180.out GE181.out)) : w.heap.size ≤ gb182)); have n5_ := Aside0.mk ((by rw [hg]; exact (below_size (W2 HB.out GE180.out GE181.out)) : w.heap.size ≤ gb182)); have n6_ := Aside0.mk ((by rw [hg]; exact Nat.ne_of_lt (blk_lt (g := gb180) (Bq BK180.out)) : gb180 ≠ gb182)); have n7_ := Aside0.mk ((by rw [hg]; exact Nat.ne_of_gt (blk_lt (g := gb180) (Bq BK180.out)) : gb182 ≠ gb180)); have n8_ := Aside0.mk ((by rw [hg]; exact Nat.ne_of_lt (blk_lt (g := gb181) (Bq BK181.out)) : gb181 ≠ gb182)); have n9_ := Aside0.mk ((by rw [hg]; exact Nat.ne_of_gt (blk_lt (g := gb181) (Bq BK181.out)) : gb182 ≠ gb181)); clear BK180; clear BK181; clear HB; have BK180 := n0_; have BK181 := n1_; have HB := n2_; have BK182 := n3_; have GW182 := n4_; have GE182 := n5_; have NB180_182 := n6_; have NB182_180 := n7_; have NB181_182 := n8_; have NB182_181 := n9_; clear n0_ n1_ n2_ n3_ n4_ n5_ n6_ n7_ n8_ n9_; clear hb hbox hg))
 (try simp only [Act.put, List.setIfInBounds_toArray, List.set_cons_zero, List.set_cons_succ])
 go_cut [15] (fun v15 wc => ∃ (kq : Nat) (x15_2 : Bool), v15 = .bool x15_2 ∧ Aside0 (depotref24_Join.j0 kq x15_2 l0_0 l0_1 l0_2 l1_0 l1_1 l1_2 = some (r1, r2, r3, r4)) ∧ Aside0 (kq ≤ k) ∧ Aside0 (wc.heap[gb180]? = some (.cells #[(.slice A0_0 l0_0.length c0_0), (.slice A0_1 l0_1.length c0_1), (.slice A0_2 l0_2.length c0_2)] 26 (0, 0))) ∧ Aside0 (wc.heap[gb181]? = some (.cells #[(.slice A1_0 l1_0.length c1_0), (.slice A1_1 l1_1.length c1_1), (.slice A1_2 l1_2.length c1_2)] 26 (0, 0))) ∧ Aside0 (wc.heap[gb182]? = some (.cells #[(.slice none 0 0), (.slice none 0 0), (.slice none 0 0)] 26 (0, 0))) ∧ Aside0 (Below w.heap.size w wc))
 case first =>
  have H := HC3.out
  clear HC3
  replace H := Option.bind_eq_some_iff.mp H
  obtain ⟨t183, A70, H⟩ := H
  replace H : (if t183 = true then ((depotref24_Formed.f k l1_0 l1_1 l1_2).bind fun t184 => (depotref24_Join.j0 k (!t184) l0_0 l0_1 l0_2 l1_0 l1_1 l1_2)) else (depotref24_Join.j0 k true l0_0 l0_1 l0_2 l1_0 l1_1 l1_2)) = some (r1, r2, r3, r4) := H
  have A7 := Aside0.mk A70
  clear A70
  by_cases c8 : t183 = true
  ·subst c8
   have H1 : ((depotref24_Formed.f k l1_0 l1_1 l1_2).bind fun t184 => (depotref24_Join.j0 k (!t184) l0_0 l0_1 l0_2 l1_0 l1_1 l1_2)) = some (r1, r2, r3, r4) := by rw [if_pos rfl] at H; exact H
   clear H
   have H := H1
   clear H1
   replace H := Option.bind_eq_some_iff.mp H
   obtain ⟨t184, A90, H⟩ := H
   replace H : (depotref24_Join.j0 k (!t184) l0_0 l0_1 l0_2 l1_0 l1_1 l1_2) = some (r1, r2, r3, r4) := H
   have A9 := Aside0.mk A90
   clear A90
   have H' := Aside0.mk H
   clear H
   have hnb10 := NB180_181.out
   have hnc10 := NB181_180.out
   have hnb11 := NB180_182.out
   have hnc11 := NB182_180.out
   have hcz12_0 : w6.cell? ⟨gb180, 0, none⟩ = some (.slice A0_0 l0_0.length c0_0) := (blk_cell BK180.out 0).trans rfl
   have hcz12_1 : w6.cell? ⟨gb180, 1, none⟩ = some (.slice A0_1 l0_1.length c0_1) := (blk_cell BK180.out 1).trans rfl
   have hcz12_2 : w6.cell? ⟨gb180, 2, none⟩ = some (.slice A0_2 l0_2.length c0_2) := (blk_cell BK180.out 2).trans rfl
   have hfz12_0 := blk_frozen BK180.out 0
   have hfz12_1 := blk_frozen BK180.out 1
   have hfz12_2 := blk_frozen BK180.out 2
   go_wp2_with (first | ((with_reducible refine gate_callee (f := 13) rfl ?_); refine goesL_ (some 9) rfl rfl Tryd.func13 (by kernel_rfl) rfl #[.agg #[.slice A0_0 l0_0.length c0_0, .slice A0_1 l0_1.length c0_1, .slice A0_2 l0_2.length c0_2]] rfl (by (try simp only [List.map_toArray, List.map_cons, List.map_nil]); first | done | rfl | (simp only [List.length_drop, List.length_take]; rfl) | (simp; done)) ?_; (with_reducible refine (depotref24_Formed.calls k _ _ l0_0 _ _ l0_1 _ _ l0_2 true _ ?side1 ?side2 ?side3 ?side4 ?side5 ?side6 A7.out).mono ?_); (case side1 => exact Cq HR0_0.out HB.out); (case side2 => exact HC0_0.out); (case side3 => exact Cq HR0_1.out HB.out); (case side4 => exact HC0_1.out); (case side5 => exact Cq HR0_2.out HB.out); (case side6 => exact HC0_2.out); rintro e w13 ⟨rfl, hb⟩; refine ⟨_, rfl, ?_⟩; have n0_ := Aside0.mk (blk_below (g := gb180) (Bq BK180.out) hb); have n1_ := Aside0.mk (blk_below (g := gb181) (Bq BK181.out) hb); have n2_ := Aside0.mk (blk_below (g := gb182) (Bq BK182.out) hb); have n3_ := Aside0.mk (below_step (W3 HB.out GE180.out GE181.out GE182.out) hb); clear BK180; clear BK181; clear BK182; clear HB; have BK180 := n0_; have BK181 := n1_; have BK182 := n2_; have HB := n3_; clear n0_ n1_ n2_ n3_; (try clear hb); (try clear hb2); (try clear hk); (try clear hi); have hnb14 := NB181_182.out; have hnc14 := NB182_181.out; have hcz15_0 : w13.cell? ⟨gb181, 0, none⟩ = some (.slice A1_0 l1_0.length c1_0) := (blk_cell BK181.out 0).trans rfl; have hcz15_1 : w13.cell? ⟨gb181, 1, none⟩ = some (.slice A1_1 l1_1.length c1_1) := (blk_cell BK181.out 1).trans rfl; have hcz15_2 : w13.cell? ⟨gb181, 2, none⟩ = some (.slice A1_2 l1_2.length c1_2) := (blk_cell BK181.out 2).trans rfl; have hfz15_0 := blk_frozen BK181.out 0; have hfz15_1 := blk_frozen BK181.out 1; have hfz15_2 := blk_frozen BK181.out 2) | (go_at_call 13; (with_reducible refine (depotref24_Formed.calls k _ _ l1_0 _ _ l1_1 _ _ l1_2 t184 _ ?side1 ?side2 ?side3 ?side4 ?side5 ?side6 A9.out).mono ?_); (case side1 => exact Cq HR1_0.out HB.out); (case side2 => exact HC1_0.out); (case side3 => exact Cq HR1_1.out HB.out); (case side4 => exact HC1_1.out); (case side5 => exact Cq HR1_2.out HB.out); (case side6 => exact HC1_2.out); rintro e w16 ⟨rfl, hb⟩; have n0_ := Aside0.mk (blk_below (g := gb180) (Bq BK180.out) hb); have n1_ := Aside0.mk (blk_below (g := gb181) (Bq BK181.out) hb); have n2_ := Aside0.mk (blk_below (g := gb182) (Bq BK182.out) hb); have n3_ := Aside0.mk (below_step (W3 HB.out GE180.out GE181.out GE182.out) hb); clear BK180; clear BK181; clear BK182; clear HB; have BK180 := n0_; have BK181 := n1_; have BK182 := n2_; have HB := n3_; clear n0_ n1_ n2_ n3_; (try clear hb); (try clear hb2); (try clear hk); (try clear hi)))
   go_meet
   case rel => exact ⟨_, (!t184), (by first | rfl | (simp; done) | (simp [*]; done)), H', ⟨by first | omega | exact Nat.le_refl _⟩, ⟨by (with_reducible repeat (first | refine blk_drewN ?_ _ | refine blk_drew ?_ | refine blk_alloc ?_ _)); exact BK180.out⟩, ⟨by (with_reducible repeat (first | refine blk_drewN ?_ _ | refine blk_drew ?_ | refine blk_alloc ?_ _)); exact BK181.out⟩, ⟨by (with_reducible repeat (first | refine blk_drewN ?_ _ | refine blk_drew ?_ | refine blk_alloc ?_ _)); exact BK182.out⟩, ⟨by repeat (first | (with_reducible first | exact HB.out | apply below_alloc | apply pw_below_drewN | apply below_drew1 | refine below_set ?_ GE180.out | refine below_set ?_ GE181.out | refine below_set ?_ GE182.out) | exact HB.out)⟩⟩
  ·replace c8 := Bool.eq_false_iff.mpr c8
   subst c8
   have H1 : (depotref24_Join.j0 k true l0_0 l0_1 l0_2 l1_0 l1_1 l1_2) = some (r1, r2, r3, r4) := by rw [if_neg (show ¬ (false = true) by decide)] at H; exact H
   clear H
   have H := H1
   clear H1
   have H' := Aside0.mk H
   clear H
   have hnb17 := NB180_181.out
   have hnc17 := NB181_180.out
   have hnb18 := NB180_182.out
   have hnc18 := NB182_180.out
   have hcz19_0 : w6.cell? ⟨gb180, 0, none⟩ = some (.slice A0_0 l0_0.length c0_0) := (blk_cell BK180.out 0).trans rfl
   have hcz19_1 : w6.cell? ⟨gb180, 1, none⟩ = some (.slice A0_1 l0_1.length c0_1) := (blk_cell BK180.out 1).trans rfl
   have hcz19_2 : w6.cell? ⟨gb180, 2, none⟩ = some (.slice A0_2 l0_2.length c0_2) := (blk_cell BK180.out 2).trans rfl
   have hfz19_0 := blk_frozen BK180.out 0
   have hfz19_1 := blk_frozen BK180.out 1
   have hfz19_2 := blk_frozen BK180.out 2
   go_wp2_with (first | ((with_reducible refine gate_callee (f := 13) rfl ?_); refine goesL_ (some 9) rfl rfl Tryd.func13 (by kernel_rfl) rfl #[.agg #[.slice A0_0 l0_0.length c0_0, .slice A0_1 l0_1.length c0_1, .slice A0_2 l0_2.length c0_2]] rfl (by (try simp only [List.map_toArray, List.map_cons, List.map_nil]); first | done | rfl | (simp only [List.length_drop, List.length_take]; rfl) | (simp; done)) ?_; (with_reducible refine (depotref24_Formed.calls k _ _ l0_0 _ _ l0_1 _ _ l0_2 false _ ?side1 ?side2 ?side3 ?side4 ?side5 ?side6 A7.out).mono ?_); (case side1 => exact Cq HR0_0.out HB.out); (case side2 => exact HC0_0.out); (case side3 => exact Cq HR0_1.out HB.out); (case side4 => exact HC0_1.out); (case side5 => exact Cq HR0_2.out HB.out); (case side6 => exact HC0_2.out); rintro e w20 ⟨rfl, hb⟩; refine ⟨_, rfl, ?_⟩; have n0_ := Aside0.mk (blk_below (g := gb180) (Bq BK180.out) hb); have n1_ := Aside0.mk (blk_below (g := gb181) (Bq BK181.out) hb); have n2_ := Aside0.mk (blk_below (g := gb182) (Bq BK182.out) hb); have n3_ := Aside0.mk (below_step (W3 HB.out GE180.out GE181.out GE182.out) hb); clear BK180; clear BK181; clear BK182; clear HB; have BK180 := n0_; have BK181 := n1_; have BK182 := n2_; have HB := n3_; clear n0_ n1_ n2_ n3_; (try clear hb); (try clear hb2); (try clear hk); (try clear hi)))
   go_meet
   case rel => exact ⟨_, (true), (by first | rfl | (simp; done) | (simp [*]; done)), H', ⟨by first | omega | exact Nat.le_refl _⟩, ⟨by (with_reducible repeat (first | refine blk_drewN ?_ _ | refine blk_drew ?_ | refine blk_alloc ?_ _)); exact BK180.out⟩, ⟨by (with_reducible repeat (first | refine blk_drewN ?_ _ | refine blk_drew ?_ | refine blk_alloc ?_ _)); exact BK181.out⟩, ⟨by (with_reducible repeat (first | refine blk_drewN ?_ _ | refine blk_drew ?_ | refine blk_alloc ?_ _)); exact BK182.out⟩, ⟨by repeat (first | (with_reducible first | exact HB.out | apply below_alloc | apply pw_below_drewN | apply below_drew1 | refine below_set ?_ GE180.out | refine below_set ?_ GE181.out | refine below_set ?_ GE182.out) | exact HB.out)⟩⟩
 case rest =>
  clear HC3
  try clear c1
  try clear p2
  try clear c8
  try clear c10
  try clear c11
  try clear c13
  try clear c14
  try clear c15
  try clear c17
  try clear c18
  try clear hcz12_0
  try clear hcz12_1
  try clear hcz12_2
  try clear hcz15_0
  try clear hcz15_1
  try clear hcz15_2
  try clear hcz19_0
  try clear hcz19_1
  try clear hcz19_2
  try clear hfz12_0
  try clear hfz12_1
  try clear hfz12_2
  try clear hfz15_0
  try clear hfz15_1
  try clear hfz15_2
  try clear hfz19_0
  try clear hfz19_1
  try clear hfz19_2
  obtain ⟨kq, x15_2, rfl, HA, HJ2, BK180, BK181, BK182, HB⟩ := hcut
  cases kq with
  | zero => exact absurd HA.out (by simp [depotref24_Join.j0])
  | succ kj2 =>
   have H := HA.out
   clear HA
   simp only [depotref24_Join.j0] at H
   by_cases c21 : x15_2 = true
   ·subst c21
    have H1 : (some (([] : List (List (S46))), ([] : List (S46)), ([] : List (S48)), 1)) = some (r1, r2, r3, r4) := by rw [if_pos rfl] at H; exact H
    clear H
    have H := H1
    clear H1
    simp only [Option.some.injEq, Prod.mk.injEq] at H
    obtain ⟨rfl, rfl, rfl, rfl⟩ := H
    have hnb22 := NB182_180.out
    have hnc22 := NB180_182.out
    have hnb23 := NB182_181.out
    have hnc23 := NB181_182.out
    have hcz24_0 : wc.cell? ⟨gb182, 0, none⟩ = some (.slice none 0 0) := (blk_cell BK182.out 0).trans rfl
    have hcz24_1 : wc.cell? ⟨gb182, 1, none⟩ = some (.slice none 0 0) := (blk_cell BK182.out 1).trans rfl
    have hcz24_2 : wc.cell? ⟨gb182, 2, none⟩ = some (.slice none 0 0) := (blk_cell BK182.out 2).trans rfl
    have hfz24_0 := blk_frozen BK182.out 0
    have hfz24_1 := blk_frozen BK182.out 1
    have hfz24_2 := blk_frozen BK182.out 2
    go_wp2
    refine bodyPost_ret (results_ct rfl _ _ gb182 26 #[.slice none 0 0, .slice none 0 0, .slice none 0 0] (0, 0) _ rfl (by (with_reducible repeat (first | refine blk_drewN ?_ _ | refine blk_drew ?_ | refine blk_alloc ?_ _)); refine blk_put (cs := #[.slice none 0 0, .slice none 0 0, .slice none 0 0]) ?_ 2 _ rfl; (with_reducible repeat (first | refine blk_drewN ?_ _ | refine blk_drew ?_ | refine blk_alloc ?_ _)); refine blk_put (cs := #[.slice none 0 0, .slice none 0 0, .slice none 0 0]) ?_ 1 _ rfl; (with_reducible repeat (first | refine blk_drewN ?_ _ | refine blk_drew ?_ | refine blk_alloc ?_ _)); refine blk_put (cs := #[.slice none 0 0, .slice none 0 0, .slice none 0 0]) ?_ 0 _ rfl; (with_reducible repeat (first | refine blk_drewN ?_ _ | refine blk_drew ?_ | refine blk_alloc ?_ _)); exact BK182.out) Tryd.underlying26 rfl (by kernel_rfl)) rfl ?_
    exact ⟨_, _, _, by first | rfl | (simp [errW_none, errW_some] <;> rfl) | (simp [*, errW_none, errW_some] <;> rfl) | (simp [errW_none, errW_some, Go.Proofs.YtmocooihkobdjaaDoor.listNe]; done), by first | exact Kd.S_nil _ _ _ _ _ | exact Kd.N_nil _ _ _ _ _ | exact Kd.V_nil _ _ _ _ _ | exact Kd.Q_nil _ _ _ _ _ | exact Kd.R_nil _ _ _ _ _, by first | exact Kd.R_nil _ _ _ _ _ | exact Kd.N_nil _ _ _ _ _ | exact Kd.V_nil _ _ _ _ _ | exact Kd.Q_nil _ _ _ _ _ | exact Kd.S_nil _ _ _ _ _, by first | exact Kd.R_nil _ _ _ _ _ | exact Kd.N_nil _ _ _ _ _ | exact Kd.V_nil _ _ _ _ _ | exact Kd.Q_nil _ _ _ _ _ | exact Kd.S_nil _ _ _ _ _, by repeat (first | (with_reducible first | exact HB.out | apply below_alloc | apply pw_below_drewN | apply below_drew1 | refine below_set ?_ GE180.out | refine below_set ?_ GE181.out | refine below_set ?_ GE182.out) | exact HB.out)⟩
   ·replace c21 := Bool.eq_false_iff.mpr c21
    subst c21
    have H1 : ((depotref00_CopyRequest.f kj2 l0_0 l0_1 l0_2).bind fun bt185 => ((depotref00_CopyRequest.f kj2 l1_0 l1_1 l1_2).bind fun bt194 => (if bt185.1.length + bt194.1.length < 5864062014805 then (if bt185.2.1.length + bt194.2.1.length < 3518437208883 then (if bt185.2.2.length + bt194.2.2.length < 2932031007402 then (some ((bt185.1 ++ bt194.1), (bt185.2.1 ++ bt194.2.1), (bt185.2.2 ++ bt194.2.2), 0)) else (none)) else (none)) else (none)))) = some (r1, r2, r3, r4) := by rw [if_neg (show ¬ (false = true) by decide)] at H; exact H
    clear H
    have H := H1
    clear H1
    replace H := Option.bind_eq_some_iff.mp H
    obtain ⟨⟨t185, t188, t191⟩, A250, H⟩ := H
    replace H : ((depotref00_CopyRequest.f kj2 l1_0 l1_1 l1_2).bind fun bt194 => (if t185.length + bt194.1.length < 5864062014805 then (if t188.length + bt194.2.1.length < 3518437208883 then (if t191.length + bt194.2.2.length < 2932031007402 then (some ((t185 ++ bt194.1), (t188 ++ bt194.2.1), (t191 ++ bt194.2.2), 0)) else (none)) else (none)) else (none))) = some (r1, r2, r3, r4) := H
    have A25 := Aside0.mk A250
    clear A250
    replace H := Option.bind_eq_some_iff.mp H
    obtain ⟨⟨t194, t197, t200⟩, A260, H⟩ := H
    replace H : (if t185.length + t194.length < 5864062014805 then (if t188.length + t197.length < 3518437208883 then (if t191.length + t200.length < 2932031007402 then (some ((t185 ++ t194), (t188 ++ t197), (t191 ++ t200), 0)) else (none)) else (none)) else (none)) = some (r1, r2, r3, r4) := H
    have A26 := Aside0.mk A260
    clear A260
    by_cases c27 : t185.length + t194.length < 5864062014805
    ·rw [if_pos c27] at H
     have LMc27 := Aside0.mk c27
     clear c27
     obtain ⟨y205, hy205⟩ : ∃ y_ : List (List (S46)), y_ = (t185 ++ t194) := ⟨_, rfl⟩
     replace H : (if t188.length + t197.length < 3518437208883 then (if t191.length + t200.length < 2932031007402 then (some (y205, (t188 ++ t197), (t191 ++ t200), 0)) else (none)) else (none)) = some (r1, r2, r3, r4) := by first | (rw [hy205]; with_reducible exact H) | (have H2_ := (Option.bind_some _ _).symm.trans H; rw [hy205]; with_reducible exact H2_) | (have H2_ := (Option.bind_some _ _).symm.trans H; with_reducible exact H2_) | with_reducible exact H | (rw [hy205]; exact H) | exact H
     have Ny205 := Aside0.mk hy205
     clear hy205
     by_cases c28 : t188.length + t197.length < 3518437208883
     ·rw [if_pos c28] at H
      have LMc28 := Aside0.mk c28
      clear c28
      obtain ⟨y208, hy208⟩ : ∃ y_ : List (S46), y_ = (t188 ++ t197) := ⟨_, rfl⟩
      replace H : (if t191.length + t200.length < 2932031007402 then (some (y205, y208, (t191 ++ t200), 0)) else (none)) = some (r1, r2, r3, r4) := by first | (rw [hy208]; with_reducible exact H) | (have H2_ := (Option.bind_some _ _).symm.trans H; rw [hy208]; with_reducible exact H2_) | (have H2_ := (Option.bind_some _ _).symm.trans H; with_reducible exact H2_) | with_reducible exact H | (rw [hy208]; exact H) | exact H
      have Ny208 := Aside0.mk hy208
      clear hy208
      by_cases c29 : t191.length + t200.length < 2932031007402
      ·rw [if_pos c29] at H
       have LMc29 := Aside0.mk c29
       clear c29
       obtain ⟨y211, hy211⟩ : ∃ y_ : List (S48), y_ = (t191 ++ t200) := ⟨_, rfl⟩
       replace H : (some (y205, y208, y211, 0)) = some (r1, r2, r3, r4) := by first | (rw [hy211]; with_reducible exact H) | (have H2_ := (Option.bind_some _ _).symm.trans H; rw [hy211]; with_reducible exact H2_) | (have H2_ := (Option.bind_some _ _).symm.trans H; with_reducible exact H2_) | with_reducible exact H | (rw [hy211]; exact H) | exact H
       have Ny211 := Aside0.mk hy211
       clear hy211
       simp only [Option.some.injEq, Prod.mk.injEq] at H
       obtain ⟨rfl, rfl, rfl, rfl⟩ := H
       try go_wp2
       have n0_ := Aside0.mk (blk_drew BK180.out)
       have n1_ := Aside0.mk (blk_drew BK181.out)
       have n2_ := Aside0.mk (blk_drew BK182.out)
       have n3_ := Aside0.mk (below_drew1 HB.out)
       clear BK180
       clear BK181
       clear BK182
       clear HB
       have BK180 := n0_
       have BK181 := n1_
       have BK182 := n2_
       have HB := n3_
       clear n0_ n1_ n2_ n3_
       refine start_ (n := 8) (S := fun w' => w'.cell? ⟨gb180, 0, none⟩ = some (.slice A0_0 l0_0.length c0_0) ∧ w'.cell? ⟨gb180, 1, none⟩ = some (.slice A0_1 l0_1.length c0_1) ∧ w'.cell? ⟨gb180, 2, none⟩ = some (.slice A0_2 l0_2.length c0_2) ∧ w'.cell? ⟨gb181, 0, none⟩ = some (.slice A1_0 l1_0.length c1_0) ∧ w'.cell? ⟨gb181, 1, none⟩ = some (.slice A1_1 l1_1.length c1_1) ∧ w'.cell? ⟨gb181, 2, none⟩ = some (.slice A1_2 l1_2.length c1_2)) (ds := []) #[false, false, false, false, false, false, false, false] (by kernel_rfl) rfl rfl ⟨(blk_cell BK180.out 0).trans rfl, (blk_cell BK180.out 1).trans rfl, (blk_cell BK180.out 2).trans rfl, (blk_cell BK181.out 0).trans rfl, (blk_cell BK181.out 1).trans rfl, (blk_cell BK181.out 2).trans rfl⟩ (fun hHeld => ?_); refine with_tabW depotref24_Join.tab3 depotref24_Join.bits3 (fun HT_ HW_ => ?_)
       generalize wc.drew = w30 at BK180 BK181 BK182 HB hHeld ⊢
       refine take_ (i := 0) (N := some 17) (v := ?_) (a' := ?_) #[true, false, false, false, false, false, false, false] rfl rfl (take_ofW HT_.out HW_.out (by kernel_rfl)) (fun _ _ _ h => h) (Or.inl ⟨by rfl, ?_⟩) hHeld ?_ ?_
       rotate_left
       ·rintro w' ⟨s0, s1, s2, s3, s4, s5⟩
        go_simp
        with_reducible rfl
       rotate_left
       ·simp only [Act.put, List.setIfInBounds_toArray, List.set_cons_zero, List.set_cons_succ, i64_w, i32_w]
        rfl
       refine take_ (i := 2) (N := some 19) (v := ?_) (a' := ?_) #[true, false, true, false, false, false, false, false] rfl rfl (take_ofW HT_.out HW_.out (by kernel_rfl)) (fun _ _ _ h => h) (Or.inl ⟨by rfl, ?_⟩) hHeld ?_ ?_
       rotate_left
       ·rintro w' ⟨s0, s1, s2, s3, s4, s5⟩
        go_simp
        with_reducible rfl
       rotate_left
       ·simp only [Act.put, List.setIfInBounds_toArray, List.set_cons_zero, List.set_cons_succ, i64_w, i32_w]
        rfl
       refine join_ (σ := Value × Value × Value × Value × Value × Value × Nat × Nat) 2 #[true, true, true, true, true, true, false, false] (fun s_ => [(18, .agg #[s_.1, s_.2.1, s_.2.2.1]), (20, .agg #[s_.2.2.2.1, s_.2.2.2.2.1, s_.2.2.2.2.2.1]), (6, .pointer (some ⟨s_.2.2.2.2.2.2.1, 0, none⟩)), (7, .pointer (some ⟨s_.2.2.2.2.2.2.2, 0, none⟩))]) (fun s_ w' => (w'.cell? ⟨gb180, 0, none⟩ = some (.slice A0_0 l0_0.length c0_0) ∧ w'.cell? ⟨gb180, 1, none⟩ = some (.slice A0_1 l0_1.length c0_1) ∧ w'.cell? ⟨gb180, 2, none⟩ = some (.slice A0_2 l0_2.length c0_2) ∧ w'.cell? ⟨gb181, 0, none⟩ = some (.slice A1_0 l1_0.length c1_0) ∧ w'.cell? ⟨gb181, 1, none⟩ = some (.slice A1_1 l1_1.length c1_1) ∧ w'.cell? ⟨gb181, 2, none⟩ = some (.slice A1_2 l1_2.length c1_2)) ∧ (Kd.N (Kd.slice 46 k46) 23 w' w.heap.size (fun k_ => (w.heap.size ≤ k_) ∧ some k_ ≠ (s_.2.1 : Value).ownBlock ∧ some k_ ≠ (s_.2.2.1 : Value).ownBlock ∧ some k_ ≠ (s_.2.2.2.1 : Value).ownBlock ∧ some k_ ≠ (s_.2.2.2.2.1 : Value).ownBlock ∧ some k_ ≠ (s_.2.2.2.2.2.1 : Value).ownBlock ∧ k_ ≠ gb180 ∧ k_ ≠ gb181 ∧ k_ ≠ gb182 ∧ k_ ≠ s_.2.2.2.2.2.2.1 ∧ k_ ≠ s_.2.2.2.2.2.2.2) s_.1 t185) ∧ (Kd.R k46 46 w' w.heap.size (fun k_ => (w.heap.size ≤ k_) ∧ some k_ ≠ (s_.2.2.2.2.1 : Value).ownBlock) s_.2.1 t188) ∧ (Kd.R k48 48 w' w.heap.size (fun k_ => (w.heap.size ≤ k_) ∧ some k_ ≠ (s_.2.2.2.2.2.1 : Value).ownBlock) s_.2.2.1 t191) ∧ (Kd.N (Kd.slice 46 k46) 23 w' w.heap.size (fun k_ => (w.heap.size ≤ k_) ∧ some k_ ≠ (s_.1 : Value).ownBlock ∧ some k_ ≠ (s_.2.1 : Value).ownBlock ∧ some k_ ≠ (s_.2.2.1 : Value).ownBlock ∧ some k_ ≠ (s_.2.2.2.2.1 : Value).ownBlock ∧ some k_ ≠ (s_.2.2.2.2.2.1 : Value).ownBlock ∧ k_ ≠ gb180 ∧ k_ ≠ gb181 ∧ k_ ≠ gb182 ∧ k_ ≠ s_.2.2.2.2.2.2.1 ∧ k_ ≠ s_.2.2.2.2.2.2.2) s_.2.2.2.1 t194) ∧ (Kd.R k46 46 w' w.heap.size (fun k_ => (w.heap.size ≤ k_) ∧ some k_ ≠ (s_.2.1 : Value).ownBlock) s_.2.2.2.2.1 t197) ∧ (Kd.R k48 48 w' w.heap.size (fun k_ => (w.heap.size ≤ k_) ∧ some k_ ≠ (s_.2.2.1 : Value).ownBlock) s_.2.2.2.2.2.1 t200) ∧ (w'.heap[gb180]? = some (.cells #[.slice A0_0 l0_0.length c0_0, .slice A0_1 l0_1.length c0_1, .slice A0_2 l0_2.length c0_2] 26 (0, 0))) ∧ (w'.heap[gb181]? = some (.cells #[.slice A1_0 l1_0.length c1_0, .slice A1_1 l1_1.length c1_1, .slice A1_2 l1_2.length c1_2] 26 (0, 0))) ∧ (w'.heap[gb182]? = some (.cells #[.slice none 0 0, .slice none 0 0, .slice none 0 0] 26 (0, 0))) ∧ (w'.heap[s_.2.2.2.2.2.2.1]? = some (.cells #[.slice none 0 0, .slice none 0 0, .slice none 0 0] 26 (0, 0))) ∧ (w'.heap[s_.2.2.2.2.2.2.2]? = some (.cells #[.slice none 0 0, .slice none 0 0, .slice none 0 0] 26 (0, 0))) ∧ (w.heap.size ≤ s_.2.2.2.2.2.2.1) ∧ (w.heap.size ≤ s_.2.2.2.2.2.2.1) ∧ (gb180 ≠ s_.2.2.2.2.2.2.1) ∧ (s_.2.2.2.2.2.2.1 ≠ gb180) ∧ (gb181 ≠ s_.2.2.2.2.2.2.1) ∧ (s_.2.2.2.2.2.2.1 ≠ gb181) ∧ (gb182 ≠ s_.2.2.2.2.2.2.1) ∧ (s_.2.2.2.2.2.2.1 ≠ gb182) ∧ (s_.2.2.2.2.2.2.2 ≠ s_.2.2.2.2.2.2.1) ∧ (s_.2.2.2.2.2.2.1 ≠ s_.2.2.2.2.2.2.2) ∧ (w.heap.size ≤ s_.2.2.2.2.2.2.2) ∧ (w.heap.size ≤ s_.2.2.2.2.2.2.2) ∧ (gb180 ≠ s_.2.2.2.2.2.2.2) ∧ (s_.2.2.2.2.2.2.2 ≠ gb180) ∧ (gb181 ≠ s_.2.2.2.2.2.2.2) ∧ (s_.2.2.2.2.2.2.2 ≠ gb181) ∧ (gb182 ≠ s_.2.2.2.2.2.2.2) ∧ (s_.2.2.2.2.2.2.2 ≠ gb182) ∧ (Below w.heap.size w w')) ?_ ?_
       rotate_left
       ·intro hJ1_3_4_5
        refine join_ (σ := Value × Value × Value × Value × Value × Value × Nat) 3 #[true, true, true, true, true, false, false, false] (fun s_ => [(18, .agg #[s_.1, s_.2.1, s_.2.2.1]), (20, .agg #[s_.2.2.2.1, s_.2.2.2.2.1, s_.2.2.2.2.2.1]), (6, .pointer (some ⟨s_.2.2.2.2.2.2, 0, none⟩))]) (fun s_ w' => (w'.cell? ⟨gb180, 0, none⟩ = some (.slice A0_0 l0_0.length c0_0) ∧ w'.cell? ⟨gb180, 1, none⟩ = some (.slice A0_1 l0_1.length c0_1) ∧ w'.cell? ⟨gb180, 2, none⟩ = some (.slice A0_2 l0_2.length c0_2) ∧ w'.cell? ⟨gb181, 0, none⟩ = some (.slice A1_0 l1_0.length c1_0) ∧ w'.cell? ⟨gb181, 1, none⟩ = some (.slice A1_1 l1_1.length c1_1) ∧ w'.cell? ⟨gb181, 2, none⟩ = some (.slice A1_2 l1_2.length c1_2)) ∧ (Kd.N (Kd.slice 46 k46) 23 w' w.heap.size (fun k_ => (w.heap.size ≤ k_) ∧ some k_ ≠ (s_.2.1 : Value).ownBlock ∧ some k_ ≠ (s_.2.2.1 : Value).ownBlock ∧ some k_ ≠ (s_.2.2.2.1 : Value).ownBlock ∧ some k_ ≠ (s_.2.2.2.2.1 : Value).ownBlock ∧ some k_ ≠ (s_.2.2.2.2.2.1 : Value).ownBlock ∧ k_ ≠ gb180 ∧ k_ ≠ gb181 ∧ k_ ≠ gb182 ∧ k_ ≠ s_.2.2.2.2.2.2) s_.1 t185) ∧ (Kd.R k46 46 w' w.heap.size (fun k_ => (w.heap.size ≤ k_) ∧ some k_ ≠ (s_.2.2.2.2.1 : Value).ownBlock) s_.2.1 t188) ∧ (Kd.R k48 48 w' w.heap.size (fun k_ => (w.heap.size ≤ k_) ∧ some k_ ≠ (s_.2.2.2.2.2.1 : Value).ownBlock) s_.2.2.1 t191) ∧ (Kd.N (Kd.slice 46 k46) 23 w' w.heap.size (fun k_ => (w.heap.size ≤ k_) ∧ some k_ ≠ (s_.1 : Value).ownBlock ∧ some k_ ≠ (s_.2.1 : Value).ownBlock ∧ some k_ ≠ (s_.2.2.1 : Value).ownBlock ∧ some k_ ≠ (s_.2.2.2.2.1 : Value).ownBlock ∧ some k_ ≠ (s_.2.2.2.2.2.1 : Value).ownBlock ∧ k_ ≠ gb180 ∧ k_ ≠ gb181 ∧ k_ ≠ gb182 ∧ k_ ≠ s_.2.2.2.2.2.2) s_.2.2.2.1 t194) ∧ (Kd.R k46 46 w' w.heap.size (fun k_ => (w.heap.size ≤ k_) ∧ some k_ ≠ (s_.2.1 : Value).ownBlock) s_.2.2.2.2.1 t197) ∧ (Kd.R k48 48 w' w.heap.size (fun k_ => (w.heap.size ≤ k_) ∧ some k_ ≠ (s_.2.2.1 : Value).ownBlock) s_.2.2.2.2.2.1 t200) ∧ (w'.heap[gb180]? = some (.cells #[.slice A0_0 l0_0.length c0_0, .slice A0_1 l0_1.length c0_1, .slice A0_2 l0_2.length c0_2] 26 (0, 0))) ∧ (w'.heap[gb181]? = some (.cells #[.slice A1_0 l1_0.length c1_0, .slice A1_1 l1_1.length c1_1, .slice A1_2 l1_2.length c1_2] 26 (0, 0))) ∧ (w'.heap[gb182]? = some (.cells #[.slice none 0 0, .slice none 0 0, .slice none 0 0] 26 (0, 0))) ∧ (w'.heap[s_.2.2.2.2.2.2]? = some (.cells #[.slice none 0 0, .slice none 0 0, .slice none 0 0] 26 (0, 0))) ∧ (w.heap.size ≤ s_.2.2.2.2.2.2) ∧ (w.heap.size ≤ s_.2.2.2.2.2.2) ∧ (gb180 ≠ s_.2.2.2.2.2.2) ∧ (s_.2.2.2.2.2.2 ≠ gb180) ∧ (gb181 ≠ s_.2.2.2.2.2.2) ∧ (s_.2.2.2.2.2.2 ≠ gb181) ∧ (gb182 ≠ s_.2.2.2.2.2.2) ∧ (s_.2.2.2.2.2.2 ≠ gb182) ∧ (Below w.heap.size w w')) ?_ ?_
        rotate_left
        ·intro hJ1_3_4
         refine join_ (σ := Value × Value × Value × Value × Value × Value × Nat) 3 #[true, true, true, true, false, true, false, false] (fun s_ => [(18, .agg #[s_.1, s_.2.1, s_.2.2.1]), (20, .agg #[s_.2.2.2.1, s_.2.2.2.2.1, s_.2.2.2.2.2.1]), (7, .pointer (some ⟨s_.2.2.2.2.2.2, 0, none⟩))]) (fun s_ w' => (w'.cell? ⟨gb180, 0, none⟩ = some (.slice A0_0 l0_0.length c0_0) ∧ w'.cell? ⟨gb180, 1, none⟩ = some (.slice A0_1 l0_1.length c0_1) ∧ w'.cell? ⟨gb180, 2, none⟩ = some (.slice A0_2 l0_2.length c0_2) ∧ w'.cell? ⟨gb181, 0, none⟩ = some (.slice A1_0 l1_0.length c1_0) ∧ w'.cell? ⟨gb181, 1, none⟩ = some (.slice A1_1 l1_1.length c1_1) ∧ w'.cell? ⟨gb181, 2, none⟩ = some (.slice A1_2 l1_2.length c1_2)) ∧ (Kd.N (Kd.slice 46 k46) 23 w' w.heap.size (fun k_ => (w.heap.size ≤ k_) ∧ some k_ ≠ (s_.2.1 : Value).ownBlock ∧ some k_ ≠ (s_.2.2.1 : Value).ownBlock ∧ some k_ ≠ (s_.2.2.2.1 : Value).ownBlock ∧ some k_ ≠ (s_.2.2.2.2.1 : Value).ownBlock ∧ some k_ ≠ (s_.2.2.2.2.2.1 : Value).ownBlock ∧ k_ ≠ gb180 ∧ k_ ≠ gb181 ∧ k_ ≠ gb182 ∧ k_ ≠ s_.2.2.2.2.2.2) s_.1 t185) ∧ (Kd.R k46 46 w' w.heap.size (fun k_ => (w.heap.size ≤ k_) ∧ some k_ ≠ (s_.2.2.2.2.1 : Value).ownBlock) s_.2.1 t188) ∧ (Kd.R k48 48 w' w.heap.size (fun k_ => (w.heap.size ≤ k_) ∧ some k_ ≠ (s_.2.2.2.2.2.1 : Value).ownBlock) s_.2.2.1 t191) ∧ (Kd.N (Kd.slice 46 k46) 23 w' w.heap.size (fun k_ => (w.heap.size ≤ k_) ∧ some k_ ≠ (s_.1 : Value).ownBlock ∧ some k_ ≠ (s_.2.1 : Value).ownBlock ∧ some k_ ≠ (s_.2.2.1 : Value).ownBlock ∧ some k_ ≠ (s_.2.2.2.2.1 : Value).ownBlock ∧ some k_ ≠ (s_.2.2.2.2.2.1 : Value).ownBlock ∧ k_ ≠ gb180 ∧ k_ ≠ gb181 ∧ k_ ≠ gb182 ∧ k_ ≠ s_.2.2.2.2.2.2) s_.2.2.2.1 t194) ∧ (Kd.R k46 46 w' w.heap.size (fun k_ => (w.heap.size ≤ k_) ∧ some k_ ≠ (s_.2.1 : Value).ownBlock) s_.2.2.2.2.1 t197) ∧ (Kd.R k48 48 w' w.heap.size (fun k_ => (w.heap.size ≤ k_) ∧ some k_ ≠ (s_.2.2.1 : Value).ownBlock) s_.2.2.2.2.2.1 t200) ∧ (w'.heap[gb180]? = some (.cells #[.slice A0_0 l0_0.length c0_0, .slice A0_1 l0_1.length c0_1, .slice A0_2 l0_2.length c0_2] 26 (0, 0))) ∧ (w'.heap[gb181]? = some (.cells #[.slice A1_0 l1_0.length c1_0, .slice A1_1 l1_1.length c1_1, .slice A1_2 l1_2.length c1_2] 26 (0, 0))) ∧ (w'.heap[gb182]? = some (.cells #[.slice none 0 0, .slice none 0 0, .slice none 0 0] 26 (0, 0))) ∧ (w'.heap[s_.2.2.2.2.2.2]? = some (.cells #[.slice none 0 0, .slice none 0 0, .slice none 0 0] 26 (0, 0))) ∧ (w.heap.size ≤ s_.2.2.2.2.2.2) ∧ (w.heap.size ≤ s_.2.2.2.2.2.2) ∧ (gb180 ≠ s_.2.2.2.2.2.2) ∧ (s_.2.2.2.2.2.2 ≠ gb180) ∧ (gb181 ≠ s_.2.2.2.2.2.2) ∧ (s_.2.2.2.2.2.2 ≠ gb181) ∧ (gb182 ≠ s_.2.2.2.2.2.2) ∧ (s_.2.2.2.2.2.2 ≠ gb182) ∧ (Below w.heap.size w w')) ?_ ?_
         rotate_left
         ·intro hJ1_3_5
          refine join_ (σ := Value × Value × Value × Nat × Nat) 3 #[true, true, true, false, true, true, false, false] (fun s_ => [(18, .agg #[s_.1, s_.2.1, s_.2.2.1]), (6, .pointer (some ⟨s_.2.2.2.1, 0, none⟩)), (7, .pointer (some ⟨s_.2.2.2.2, 0, none⟩))]) (fun s_ w' => (w'.cell? ⟨gb180, 0, none⟩ = some (.slice A0_0 l0_0.length c0_0) ∧ w'.cell? ⟨gb180, 1, none⟩ = some (.slice A0_1 l0_1.length c0_1) ∧ w'.cell? ⟨gb180, 2, none⟩ = some (.slice A0_2 l0_2.length c0_2) ∧ w'.cell? ⟨gb181, 0, none⟩ = some (.slice A1_0 l1_0.length c1_0) ∧ w'.cell? ⟨gb181, 1, none⟩ = some (.slice A1_1 l1_1.length c1_1) ∧ w'.cell? ⟨gb181, 2, none⟩ = some (.slice A1_2 l1_2.length c1_2)) ∧ (Kd.N (Kd.slice 46 k46) 23 w' w.heap.size (fun k_ => (w.heap.size ≤ k_) ∧ some k_ ≠ (s_.2.1 : Value).ownBlock ∧ some k_ ≠ (s_.2.2.1 : Value).ownBlock ∧ k_ ≠ gb180 ∧ k_ ≠ gb181 ∧ k_ ≠ gb182 ∧ k_ ≠ s_.2.2.2.1 ∧ k_ ≠ s_.2.2.2.2) s_.1 t185) ∧ (Kd.R k46 46 w' w.heap.size (fun k_ => (w.heap.size ≤ k_)) s_.2.1 t188) ∧ (Kd.R k48 48 w' w.heap.size (fun k_ => (w.heap.size ≤ k_)) s_.2.2.1 t191) ∧ (w'.heap[gb180]? = some (.cells #[.slice A0_0 l0_0.length c0_0, .slice A0_1 l0_1.length c0_1, .slice A0_2 l0_2.length c0_2] 26 (0, 0))) ∧ (w'.heap[gb181]? = some (.cells #[.slice A1_0 l1_0.length c1_0, .slice A1_1 l1_1.length c1_1, .slice A1_2 l1_2.length c1_2] 26 (0, 0))) ∧ (w'.heap[gb182]? = some (.cells #[.slice none 0 0, .slice none 0 0, .slice none 0 0] 26 (0, 0))) ∧ (w'.heap[s_.2.2.2.1]? = some (.cells #[.slice none 0 0, .slice none 0 0, .slice none 0 0] 26 (0, 0))) ∧ (w'.heap[s_.2.2.2.2]? = some (.cells #[.slice none 0 0, .slice none 0 0, .slice none 0 0] 26 (0, 0))) ∧ (w.heap.size ≤ s_.2.2.2.1) ∧ (w.heap.size ≤ s_.2.2.2.1) ∧ (gb180 ≠ s_.2.2.2.1) ∧ (s_.2.2.2.1 ≠ gb180) ∧ (gb181 ≠ s_.2.2.2.1) ∧ (s_.2.2.2.1 ≠ gb181) ∧ (gb182 ≠ s_.2.2.2.1) ∧ (s_.2.2.2.1 ≠ gb182) ∧ (s_.2.2.2.2 ≠ s_.2.2.2.1) ∧ (s_.2.2.2.1 ≠ s_.2.2.2.2) ∧ (w.heap.size ≤ s_.2.2.2.2) ∧ (w.heap.size ≤ s_.2.2.2.2) ∧ (gb180 ≠ s_.2.2.2.2) ∧ (s_.2.2.2.2 ≠ gb180) ∧ (gb181 ≠ s_.2.2.2.2) ∧ (s_.2.2.2.2 ≠ gb181) ∧ (gb182 ≠ s_.2.2.2.2) ∧ (s_.2.2.2.2 ≠ gb182) ∧ (Below w.heap.size w w')) ?_ ?_
          rotate_left
          ·intro hJ1_4_5
           refine join_ (σ := Value × Value × Value × Value × Value × Value) 4 #[true, true, true, true, false, false, false, false] (fun s_ => [(18, .agg #[s_.1, s_.2.1, s_.2.2.1]), (20, .agg #[s_.2.2.2.1, s_.2.2.2.2.1, s_.2.2.2.2.2])]) (fun s_ w' => (w'.cell? ⟨gb180, 0, none⟩ = some (.slice A0_0 l0_0.length c0_0) ∧ w'.cell? ⟨gb180, 1, none⟩ = some (.slice A0_1 l0_1.length c0_1) ∧ w'.cell? ⟨gb180, 2, none⟩ = some (.slice A0_2 l0_2.length c0_2) ∧ w'.cell? ⟨gb181, 0, none⟩ = some (.slice A1_0 l1_0.length c1_0) ∧ w'.cell? ⟨gb181, 1, none⟩ = some (.slice A1_1 l1_1.length c1_1) ∧ w'.cell? ⟨gb181, 2, none⟩ = some (.slice A1_2 l1_2.length c1_2)) ∧ (Kd.N (Kd.slice 46 k46) 23 w' w.heap.size (fun k_ => (w.heap.size ≤ k_) ∧ some k_ ≠ (s_.2.1 : Value).ownBlock ∧ some k_ ≠ (s_.2.2.1 : Value).ownBlock ∧ some k_ ≠ (s_.2.2.2.1 : Value).ownBlock ∧ some k_ ≠ (s_.2.2.2.2.1 : Value).ownBlock ∧ some k_ ≠ (s_.2.2.2.2.2 : Value).ownBlock ∧ k_ ≠ gb180 ∧ k_ ≠ gb181 ∧ k_ ≠ gb182) s_.1 t185) ∧ (Kd.R k46 46 w' w.heap.size (fun k_ => (w.heap.size ≤ k_) ∧ some k_ ≠ (s_.2.2.2.2.1 : Value).ownBlock) s_.2.1 t188) ∧ (Kd.R k48 48 w' w.heap.size (fun k_ => (w.heap.size ≤ k_) ∧ some k_ ≠ (s_.2.2.2.2.2 : Value).ownBlock) s_.2.2.1 t191) ∧ (Kd.N (Kd.slice 46 k46) 23 w' w.heap.size (fun k_ => (w.heap.size ≤ k_) ∧ some k_ ≠ (s_.1 : Value).ownBlock ∧ some k_ ≠ (s_.2.1 : Value).ownBlock ∧ some k_ ≠ (s_.2.2.1 : Value).ownBlock ∧ some k_ ≠ (s_.2.2.2.2.1 : Value).ownBlock ∧ some k_ ≠ (s_.2.2.2.2.2 : Value).ownBlock ∧ k_ ≠ gb180 ∧ k_ ≠ gb181 ∧ k_ ≠ gb182) s_.2.2.2.1 t194) ∧ (Kd.R k46 46 w' w.heap.size (fun k_ => (w.heap.size ≤ k_) ∧ some k_ ≠ (s_.2.1 : Value).ownBlock) s_.2.2.2.2.1 t197) ∧ (Kd.R k48 48 w' w.heap.size (fun k_ => (w.heap.size ≤ k_) ∧ some k_ ≠ (s_.2.2.1 : Value).ownBlock) s_.2.2.2.2.2 t200) ∧ (w'.heap[gb180]? = some (.cells #[.slice A0_0 l0_0.length c0_0, .slice A0_1 l0_1.length c0_1, .slice A0_2 l0_2.length c0_2] 26 (0, 0))) ∧ (w'.heap[gb181]? = some (.cells #[.slice A1_0 l1_0.length c1_0, .slice A1_1 l1_1.length c1_1, .slice A1_2 l1_2.length c1_2] 26 (0, 0))) ∧ (w'.heap[gb182]? = some (.cells #[.slice none 0 0, .slice none 0 0, .slice none 0 0] 26 (0, 0))) ∧ (Below w.heap.size w w')) ?_ ?_
           rotate_left
           ·intro hJ1_3
            refine join_ (σ := Value × Value × Value × Nat) 4 #[true, true, true, false, true, false, false, false] (fun s_ => [(18, .agg #[s_.1, s_.2.1, s_.2.2.1]), (6, .pointer (some ⟨s_.2.2.2, 0, none⟩))]) (fun s_ w' => (w'.cell? ⟨gb180, 0, none⟩ = some (.slice A0_0 l0_0.length c0_0) ∧ w'.cell? ⟨gb180, 1, none⟩ = some (.slice A0_1 l0_1.length c0_1) ∧ w'.cell? ⟨gb180, 2, none⟩ = some (.slice A0_2 l0_2.length c0_2) ∧ w'.cell? ⟨gb181, 0, none⟩ = some (.slice A1_0 l1_0.length c1_0) ∧ w'.cell? ⟨gb181, 1, none⟩ = some (.slice A1_1 l1_1.length c1_1) ∧ w'.cell? ⟨gb181, 2, none⟩ = some (.slice A1_2 l1_2.length c1_2)) ∧ (Kd.N (Kd.slice 46 k46) 23 w' w.heap.size (fun k_ => (w.heap.size ≤ k_) ∧ some k_ ≠ (s_.2.1 : Value).ownBlock ∧ some k_ ≠ (s_.2.2.1 : Value).ownBlock ∧ k_ ≠ gb180 ∧ k_ ≠ gb181 ∧ k_ ≠ gb182 ∧ k_ ≠ s_.2.2.2) s_.1 t185) ∧ (Kd.R k46 46 w' w.heap.size (fun k_ => (w.heap.size ≤ k_)) s_.2.1 t188) ∧ (Kd.R k48 48 w' w.heap.size (fun k_ => (w.heap.size ≤ k_)) s_.2.2.1 t191) ∧ (w'.heap[gb180]? = some (.cells #[.slice A0_0 l0_0.length c0_0, .slice A0_1 l0_1.length c0_1, .slice A0_2 l0_2.length c0_2] 26 (0, 0))) ∧ (w'.heap[gb181]? = some (.cells #[.slice A1_0 l1_0.length c1_0, .slice A1_1 l1_1.length c1_1, .slice A1_2 l1_2.length c1_2] 26 (0, 0))) ∧ (w'.heap[gb182]? = some (.cells #[.slice none 0 0, .slice none 0 0, .slice none 0 0] 26 (0, 0))) ∧ (w'.heap[s_.2.2.2]? = some (.cells #[.slice none 0 0, .slice none 0 0, .slice none 0 0] 26 (0, 0))) ∧ (w.heap.size ≤ s_.2.2.2) ∧ (w.heap.size ≤ s_.2.2.2) ∧ (gb180 ≠ s_.2.2.2) ∧ (s_.2.2.2 ≠ gb180) ∧ (gb181 ≠ s_.2.2.2) ∧ (s_.2.2.2 ≠ gb181) ∧ (gb182 ≠ s_.2.2.2) ∧ (s_.2.2.2 ≠ gb182) ∧ (Below w.heap.size w w')) ?_ ?_
            rotate_left
            ·intro hJ1_4
             refine join_ (σ := Value × Value × Value × Nat) 4 #[true, true, true, false, false, true, false, false] (fun s_ => [(18, .agg #[s_.1, s_.2.1, s_.2.2.1]), (7, .pointer (some ⟨s_.2.2.2, 0, none⟩))]) (fun s_ w' => (w'.cell? ⟨gb180, 0, none⟩ = some (.slice A0_0 l0_0.length c0_0) ∧ w'.cell? ⟨gb180, 1, none⟩ = some (.slice A0_1 l0_1.length c0_1) ∧ w'.cell? ⟨gb180, 2, none⟩ = some (.slice A0_2 l0_2.length c0_2) ∧ w'.cell? ⟨gb181, 0, none⟩ = some (.slice A1_0 l1_0.length c1_0) ∧ w'.cell? ⟨gb181, 1, none⟩ = some (.slice A1_1 l1_1.length c1_1) ∧ w'.cell? ⟨gb181, 2, none⟩ = some (.slice A1_2 l1_2.length c1_2)) ∧ (Kd.N (Kd.slice 46 k46) 23 w' w.heap.size (fun k_ => (w.heap.size ≤ k_) ∧ some k_ ≠ (s_.2.1 : Value).ownBlock ∧ some k_ ≠ (s_.2.2.1 : Value).ownBlock ∧ k_ ≠ gb180 ∧ k_ ≠ gb181 ∧ k_ ≠ gb182 ∧ k_ ≠ s_.2.2.2) s_.1 t185) ∧ (Kd.R k46 46 w' w.heap.size (fun k_ => (w.heap.size ≤ k_)) s_.2.1 t188) ∧ (Kd.R k48 48 w' w.heap.size (fun k_ => (w.heap.size ≤ k_)) s_.2.2.1 t191) ∧ (w'.heap[gb180]? = some (.cells #[.slice A0_0 l0_0.length c0_0, .slice A0_1 l0_1.length c0_1, .slice A0_2 l0_2.length c0_2] 26 (0, 0))) ∧ (w'.heap[gb181]? = some (.cells #[.slice A1_0 l1_0.length c1_0, .slice A1_1 l1_1.length c1_1, .slice A1_2 l1_2.length c1_2] 26 (0, 0))) ∧ (w'.heap[gb182]? = some (.cells #[.slice none 0 0, .slice none 0 0, .slice none 0 0] 26 (0, 0))) ∧ (w'.heap[s_.2.2.2]? = some (.cells #[.slice none 0 0, .slice none 0 0, .slice none 0 0] 26 (0, 0))) ∧ (w.heap.size ≤ s_.2.2.2) ∧ (w.heap.size ≤ s_.2.2.2) ∧ (gb180 ≠ s_.2.2.2) ∧ (s_.2.2.2 ≠ gb180) ∧ (gb181 ≠ s_.2.2.2) ∧ (s_.2.2.2 ≠ gb181) ∧ (gb182 ≠ s_.2.2.2) ∧ (s_.2.2.2 ≠ gb182) ∧ (Below w.heap.size w w')) ?_ ?_
             rotate_left
             ·intro hJ1_5
              refine join_ (σ := Nat × Nat) 4 #[true, false, true, false, true, true, false, false] (fun s_ => [(6, .pointer (some ⟨s_.1, 0, none⟩)), (7, .pointer (some ⟨s_.2, 0, none⟩))]) (fun s_ w' => (w'.cell? ⟨gb180, 0, none⟩ = some (.slice A0_0 l0_0.length c0_0) ∧ w'.cell? ⟨gb180, 1, none⟩ = some (.slice A0_1 l0_1.length c0_1) ∧ w'.cell? ⟨gb180, 2, none⟩ = some (.slice A0_2 l0_2.length c0_2) ∧ w'.cell? ⟨gb181, 0, none⟩ = some (.slice A1_0 l1_0.length c1_0) ∧ w'.cell? ⟨gb181, 1, none⟩ = some (.slice A1_1 l1_1.length c1_1) ∧ w'.cell? ⟨gb181, 2, none⟩ = some (.slice A1_2 l1_2.length c1_2)) ∧ (w'.heap[gb180]? = some (.cells #[.slice A0_0 l0_0.length c0_0, .slice A0_1 l0_1.length c0_1, .slice A0_2 l0_2.length c0_2] 26 (0, 0))) ∧ (w'.heap[gb181]? = some (.cells #[.slice A1_0 l1_0.length c1_0, .slice A1_1 l1_1.length c1_1, .slice A1_2 l1_2.length c1_2] 26 (0, 0))) ∧ (w'.heap[gb182]? = some (.cells #[.slice none 0 0, .slice none 0 0, .slice none 0 0] 26 (0, 0))) ∧ (w'.heap[s_.1]? = some (.cells #[.slice none 0 0, .slice none 0 0, .slice none 0 0] 26 (0, 0))) ∧ (w'.heap[s_.2]? = some (.cells #[.slice none 0 0, .slice none 0 0, .slice none 0 0] 26 (0, 0))) ∧ (w.heap.size ≤ s_.1) ∧ (w.heap.size ≤ s_.1) ∧ (gb180 ≠ s_.1) ∧ (s_.1 ≠ gb180) ∧ (gb181 ≠ s_.1) ∧ (s_.1 ≠ gb181) ∧ (gb182 ≠ s_.1) ∧ (s_.1 ≠ gb182) ∧ (s_.2 ≠ s_.1) ∧ (s_.1 ≠ s_.2) ∧ (w.heap.size ≤ s_.2) ∧ (w.heap.size ≤ s_.2) ∧ (gb180 ≠ s_.2) ∧ (s_.2 ≠ gb180) ∧ (gb181 ≠ s_.2) ∧ (s_.2 ≠ gb181) ∧ (gb182 ≠ s_.2) ∧ (s_.2 ≠ gb182) ∧ (Below w.heap.size w w')) ?_ ?_
              rotate_left
              ·intro hJ4_5
               refine join_ (σ := Value × Value × Value) 5 #[true, true, true, false, false, false, false, false] (fun s_ => [(18, .agg #[s_.1, s_.2.1, s_.2.2])]) (fun s_ w' => (w'.cell? ⟨gb180, 0, none⟩ = some (.slice A0_0 l0_0.length c0_0) ∧ w'.cell? ⟨gb180, 1, none⟩ = some (.slice A0_1 l0_1.length c0_1) ∧ w'.cell? ⟨gb180, 2, none⟩ = some (.slice A0_2 l0_2.length c0_2) ∧ w'.cell? ⟨gb181, 0, none⟩ = some (.slice A1_0 l1_0.length c1_0) ∧ w'.cell? ⟨gb181, 1, none⟩ = some (.slice A1_1 l1_1.length c1_1) ∧ w'.cell? ⟨gb181, 2, none⟩ = some (.slice A1_2 l1_2.length c1_2)) ∧ (Kd.N (Kd.slice 46 k46) 23 w' w.heap.size (fun k_ => (w.heap.size ≤ k_) ∧ some k_ ≠ (s_.2.1 : Value).ownBlock ∧ some k_ ≠ (s_.2.2 : Value).ownBlock ∧ k_ ≠ gb180 ∧ k_ ≠ gb181 ∧ k_ ≠ gb182) s_.1 t185) ∧ (Kd.R k46 46 w' w.heap.size (fun k_ => (w.heap.size ≤ k_)) s_.2.1 t188) ∧ (Kd.R k48 48 w' w.heap.size (fun k_ => (w.heap.size ≤ k_)) s_.2.2 t191) ∧ (w'.heap[gb180]? = some (.cells #[.slice A0_0 l0_0.length c0_0, .slice A0_1 l0_1.length c0_1, .slice A0_2 l0_2.length c0_2] 26 (0, 0))) ∧ (w'.heap[gb181]? = some (.cells #[.slice A1_0 l1_0.length c1_0, .slice A1_1 l1_1.length c1_1, .slice A1_2 l1_2.length c1_2] 26 (0, 0))) ∧ (w'.heap[gb182]? = some (.cells #[.slice none 0 0, .slice none 0 0, .slice none 0 0] 26 (0, 0))) ∧ (Below w.heap.size w w')) ?_ ?_
               rotate_left
               ·intro hJ1
                refine join_ (σ := Nat) 5 #[true, false, true, false, true, false, false, false] (fun s_ => [(6, .pointer (some ⟨s_, 0, none⟩))]) (fun s_ w' => (w'.cell? ⟨gb180, 0, none⟩ = some (.slice A0_0 l0_0.length c0_0) ∧ w'.cell? ⟨gb180, 1, none⟩ = some (.slice A0_1 l0_1.length c0_1) ∧ w'.cell? ⟨gb180, 2, none⟩ = some (.slice A0_2 l0_2.length c0_2) ∧ w'.cell? ⟨gb181, 0, none⟩ = some (.slice A1_0 l1_0.length c1_0) ∧ w'.cell? ⟨gb181, 1, none⟩ = some (.slice A1_1 l1_1.length c1_1) ∧ w'.cell? ⟨gb181, 2, none⟩ = some (.slice A1_2 l1_2.length c1_2)) ∧ (w'.heap[gb180]? = some (.cells #[.slice A0_0 l0_0.length c0_0, .slice A0_1 l0_1.length c0_1, .slice A0_2 l0_2.length c0_2] 26 (0, 0))) ∧ (w'.heap[gb181]? = some (.cells #[.slice A1_0 l1_0.length c1_0, .slice A1_1 l1_1.length c1_1, .slice A1_2 l1_2.length c1_2] 26 (0, 0))) ∧ (w'.heap[gb182]? = some (.cells #[.slice none 0 0, .slice none 0 0, .slice none 0 0] 26 (0, 0))) ∧ (w'.heap[s_]? = some (.cells #[.slice none 0 0, .slice none 0 0, .slice none 0 0] 26 (0, 0))) ∧ (w.heap.size ≤ s_) ∧ (w.heap.size ≤ s_) ∧ (gb180 ≠ s_) ∧ (s_ ≠ gb180) ∧ (gb181 ≠ s_) ∧ (s_ ≠ gb181) ∧ (gb182 ≠ s_) ∧ (s_ ≠ gb182) ∧ (Below w.heap.size w w')) ?_ ?_
                rotate_left
                ·intro hJ4
                 refine join_ (σ := Nat) 5 #[true, false, true, false, false, true, false, false] (fun s_ => [(7, .pointer (some ⟨s_, 0, none⟩))]) (fun s_ w' => (w'.cell? ⟨gb180, 0, none⟩ = some (.slice A0_0 l0_0.length c0_0) ∧ w'.cell? ⟨gb180, 1, none⟩ = some (.slice A0_1 l0_1.length c0_1) ∧ w'.cell? ⟨gb180, 2, none⟩ = some (.slice A0_2 l0_2.length c0_2) ∧ w'.cell? ⟨gb181, 0, none⟩ = some (.slice A1_0 l1_0.length c1_0) ∧ w'.cell? ⟨gb181, 1, none⟩ = some (.slice A1_1 l1_1.length c1_1) ∧ w'.cell? ⟨gb181, 2, none⟩ = some (.slice A1_2 l1_2.length c1_2)) ∧ (w'.heap[gb180]? = some (.cells #[.slice A0_0 l0_0.length c0_0, .slice A0_1 l0_1.length c0_1, .slice A0_2 l0_2.length c0_2] 26 (0, 0))) ∧ (w'.heap[gb181]? = some (.cells #[.slice A1_0 l1_0.length c1_0, .slice A1_1 l1_1.length c1_1, .slice A1_2 l1_2.length c1_2] 26 (0, 0))) ∧ (w'.heap[gb182]? = some (.cells #[.slice none 0 0, .slice none 0 0, .slice none 0 0] 26 (0, 0))) ∧ (w'.heap[s_]? = some (.cells #[.slice none 0 0, .slice none 0 0, .slice none 0 0] 26 (0, 0))) ∧ (w.heap.size ≤ s_) ∧ (w.heap.size ≤ s_) ∧ (gb180 ≠ s_) ∧ (s_ ≠ gb180) ∧ (gb181 ≠ s_) ∧ (s_ ≠ gb181) ∧ (gb182 ≠ s_) ∧ (s_ ≠ gb182) ∧ (Below w.heap.size w w')) ?_ ?_
                 rotate_left
                 ·intro hJ5
                  refine three_ (i := 1) (j := 4) (k := 5) (Ni := some 18) (Nj := some 6) (Nk := some 7) #[true, true, true, false, false, false, false, false] #[true, false, true, false, true, false, false, false] #[true, false, true, false, false, true, false, false] rfl rfl rfl rfl rfl rfl (three_of HT_.out (by kernel_rfl)) (by decide) (by decide) (by decide) (fun K hK => ?_) (fun K hK => ?_) (fun K hK => ?_)
                  ·skip
                   refine goes_ Tryd.func12 (by kernel_rfl) rfl #[.agg #[.slice A0_0 l0_0.length c0_0, .slice A0_1 l0_1.length c0_1, .slice A0_2 l0_2.length c0_2]] (by rfl) rfl rfl (by (try simp only [List.map_toArray, List.map_cons, List.map_nil]); first | done | rfl | (simp only [List.length_drop, List.length_take]; rfl) | (simp; done)) ?_
                   with_reducible refine (depotref00_CopyRequest.calls kj2 _ _ l0_0 _ _ l0_1 _ _ l0_2 t185 t188 t191 _ ?side1 ?side2 ?side3 ?side4 ?side5 ?side6 A25.out).mono ?_
                   (case side1 => exact Cq HR0_0.out HB.out)
                   (case side2 => exact HC0_0.out)
                   (case side3 => exact Cq HR0_1.out HB.out)
                   (case side4 => exact HC0_1.out)
                   (case side5 => exact Cq HR0_2.out HB.out)
                   (case side6 => exact HC0_2.out)
                   rintro e w31 ⟨v186, v189, v192, rfl, ho0, ho1, ho2, hb⟩
                   refine ⟨_, rfl, ?_⟩
                   have n0_ := Aside0.mk (Kd.N_lower (Kd.N_mono (ok' := fun k_ => (w.heap.size ≤ k_) ∧ some k_ ≠ (v189 : Value).ownBlock ∧ some k_ ≠ (v192 : Value).ownBlock ∧ k_ ≠ gb180 ∧ k_ ≠ gb181 ∧ k_ ≠ gb182) (Kd.S_N (Kd.S_bound (Kd.S_apart' ho0 (Kd.R_typed ho2) (by decide)))) (fun k_ hk_ => ⟨(Nat.le_trans (below_size (W3 HB.out GE180.out GE181.out GE182.out)) hk_.2.1), hk_.1.1, hk_.1.2, (Kd.freshB (g := gb180) (Bq BK180.out) k_ hk_.2.1), (Kd.freshB (g := gb181) (Bq BK181.out) k_ hk_.2.1), (Kd.freshB (g := gb182) (Bq BK182.out) k_ hk_.2.1)⟩)) (below_size (W3 HB.out GE180.out GE181.out GE182.out)))
                   have n1_ := Aside0.mk (Kd.R_lower (Kd.R_newM (M := fun k_ => (w.heap.size ≤ k_)) ho1 (below_size (W3 HB.out GE180.out GE181.out GE182.out)) (fun k_ h_ => h_)) (below_size (W3 HB.out GE180.out GE181.out GE182.out)))
                   have n2_ := Aside0.mk (Kd.R_lower (Kd.R_newM (M := fun k_ => (w.heap.size ≤ k_)) ho2 (below_size (W3 HB.out GE180.out GE181.out GE182.out)) (fun k_ h_ => h_)) (below_size (W3 HB.out GE180.out GE181.out GE182.out)))
                   have n3_ := Aside0.mk (blk_below (g := gb180) (Bq BK180.out) hb)
                   have n4_ := Aside0.mk (blk_below (g := gb181) (Bq BK181.out) hb)
                   have n5_ := Aside0.mk (blk_below (g := gb182) (Bq BK182.out) hb)
                   have n6_ := Aside0.mk (below_step (W3 HB.out GE180.out GE181.out GE182.out) hb)
                   clear BK180
                   clear BK181
                   clear BK182
                   clear HB
                   have HO187 := n0_
                   have HO190 := n1_
                   have HO193 := n2_
                   have BK180 := n3_
                   have BK181 := n4_
                   have BK182 := n5_
                   have HB := n6_
                   clear n0_ n1_ n2_ n3_ n4_ n5_ n6_
                   (try clear hb)
                   (try clear hb2)
                   (try clear hk)
                   (try clear hi)
                   (try clear ho0)
                   (try clear ho1)
                   (try clear ho2)
                   refine hK.out _ _ ⟨(blk_cell BK180.out 0).trans rfl, (blk_cell BK180.out 1).trans rfl, (blk_cell BK180.out 2).trans rfl, (blk_cell BK181.out 0).trans rfl, (blk_cell BK181.out 1).trans rfl, (blk_cell BK181.out 2).trans rfl⟩ (fun hHeld => ?_)
                   clear hK K
                   refine norm_ (a' := ?_) ?_ ?_
                   rotate_left
                   ·show Act.put _ (some 18) _ = _
                    simp only [Act.put, List.setIfInBounds_toArray, List.set_cons_zero, List.set_cons_succ, i64_w, i32_w]
                    rfl
                   exact norm_ (by first | (simp only [putAll, Act.put, List.setIfInBounds_toArray, List.set_cons_zero, List.set_cons_succ]; done) | (simp only [putAll, Act.put, List.setIfInBounds_toArray, List.set_cons_zero, List.set_cons_succ]; rfl)) (hJ1 (v186, v189, v192) _ ⟨hHeld, (Nq HO187.out), (by (with_reducible repeat (first | apply Kd.R_alloc | apply Kd.R_drewN | apply Kd.R_drew)); exact Kd.R_mono HO190.out (fun _ hk => hk.1)), (by (with_reducible repeat (first | apply Kd.R_alloc | apply Kd.R_drewN | apply Kd.R_drew)); exact Kd.R_mono HO193.out (fun _ hk => hk.1)), (Bq BK180.out), (Bq BK181.out), (Bq BK182.out), (W3 HB.out GE180.out GE181.out GE182.out)⟩)
                  ·skip
                   refine box_step ?hg (N := 6) ?hd (cs := #[.slice none 0 0, .slice none 0 0, .slice none 0 0]) (t := 26) ?hr ?_; (case hd => rfl); (case hg => rfl); (case hr => first | (go_simp; done) | (go_simp; rfl))
                   intro gb203 hg w31 hbox hb
                   have n0_ := Aside0.mk (blk_below (g := gb180) (Bq BK180.out) hb)
                   have n1_ := Aside0.mk (blk_below (g := gb181) (Bq BK181.out) hb)
                   have n2_ := Aside0.mk (blk_below (g := gb182) (Bq BK182.out) hb)
                   have n3_ := Aside0.mk (below_step (W3 HB.out GE180.out GE181.out GE182.out) hb)
                   have n4_ := Aside0.mk (hbox)
                   have n5_ := Aside0.mk ((by rw [hg]; exact (below_size (W3 HB.out GE180.out GE181.out GE182.out)) : w.heap.size ≤ gb203))
                   have n6_ := Aside0.mk ((by rw [hg]; exact (below_size (W3 HB.out GE180.out GE181.out GE182.out)) : w.heap.size ≤ gb203))
                   have n7_ := Aside0.mk ((by rw [hg]; exact Nat.ne_of_lt (blk_lt (g := gb180) (Bq BK180.out)) : gb180 ≠ gb203))
                   have n8_ := Aside0.mk ((by rw [hg]; exact Nat.ne_of_gt (blk_lt (g := gb180) (Bq BK180.out)) : gb203 ≠ gb180))
                   have n9_ := Aside0.mk ((by rw [hg]; exact Nat.ne_of_lt (blk_lt (g := gb181) (Bq BK181.out)) : gb181 ≠ gb203))
                   have n10_ := Aside0.mk ((by rw [hg]; exact Nat.ne_of_gt (blk_lt (g := gb181) (Bq BK181.out)) : gb203 ≠ gb181))
                   have n11_ := Aside0.mk ((by rw [hg]; exact Nat.ne_of_lt (blk_lt (g := gb182) (Bq BK182.out)) : gb182 ≠ gb203))
                   have n12_ := Aside0.mk ((by rw [hg]; exact Nat.ne_of_gt (blk_lt (g := gb182) (Bq BK182.out)) : gb203 ≠ gb182))
                   clear BK180
                   clear BK181
                   clear BK182
                   clear HB
                   have BK180 := n0_
                   have BK181 := n1_
                   have BK182 := n2_
                   have HB := n3_
                   have BK203 := n4_
                   have GW203 := n5_
                   have GE203 := n6_
                   have NB180_203 := n7_
                   have NB203_180 := n8_
                   have NB181_203 := n9_
                   have NB203_181 := n10_
                   have NB182_203 := n11_
                   have NB203_182 := n12_
                   clear n0_ n1_ n2_ n3_ n4_ n5_ n6_ n7_ n8_ n9_ n10_ n11_ n12_
                   clear hb hbox hg
                   refine hK.out _ _ ⟨(blk_cell BK180.out 0).trans rfl, (blk_cell BK180.out 1).trans rfl, (blk_cell BK180.out 2).trans rfl, (blk_cell BK181.out 0).trans rfl, (blk_cell BK181.out 1).trans rfl, (blk_cell BK181.out 2).trans rfl⟩ (fun hHeld => ?_)
                   clear hK K
                   refine norm_ (a' := ?_) ?_ ?_
                   rotate_left
                   ·show Act.put _ (some 6) _ = _
                    simp only [Act.put, List.setIfInBounds_toArray, List.set_cons_zero, List.set_cons_succ, i64_w, i32_w]
                    rfl
                   exact norm_ (by first | (simp only [putAll, Act.put, List.setIfInBounds_toArray, List.set_cons_zero, List.set_cons_succ]; done) | (simp only [putAll, Act.put, List.setIfInBounds_toArray, List.set_cons_zero, List.set_cons_succ]; rfl)) (hJ4 (gb203) _ ⟨hHeld, (Bq BK180.out), (Bq BK181.out), (Bq BK182.out), (Bq BK203.out), GW203.out, GE203.out, NB180_203.out, NB203_180.out, NB181_203.out, NB203_181.out, NB182_203.out, NB203_182.out, (W4 HB.out GE180.out GE181.out GE182.out GE203.out)⟩)
                  ·skip
                   refine box_step ?hg (N := 7) ?hd (cs := #[.slice none 0 0, .slice none 0 0, .slice none 0 0]) (t := 26) ?hr ?_; (case hd => rfl); (case hg => rfl); (case hr => first | (go_simp; done) | (go_simp; rfl))
                   intro gb204 hg w31 hbox hb
                   have n0_ := Aside0.mk (blk_below (g := gb180) (Bq BK180.out) hb)
                   have n1_ := Aside0.mk (blk_below (g := gb181) (Bq BK181.out) hb)
                   have n2_ := Aside0.mk (blk_below (g := gb182) (Bq BK182.out) hb)
                   have n3_ := Aside0.mk (below_step (W3 HB.out GE180.out GE181.out GE182.out) hb)
                   have n4_ := Aside0.mk (hbox)
                   have n5_ := Aside0.mk ((by rw [hg]; exact (below_size (W3 HB.out GE180.out GE181.out GE182.out)) : w.heap.size ≤ gb204))
                   have n6_ := Aside0.mk ((by rw [hg]; exact (below_size (W3 HB.out GE180.out GE181.out GE182.out)) : w.heap.size ≤ gb204))
                   have n7_ := Aside0.mk ((by rw [hg]; exact Nat.ne_of_lt (blk_lt (g := gb180) (Bq BK180.out)) : gb180 ≠ gb204))
                   have n8_ := Aside0.mk ((by rw [hg]; exact Nat.ne_of_gt (blk_lt (g := gb180) (Bq BK180.out)) : gb204 ≠ gb180))
                   have n9_ := Aside0.mk ((by rw [hg]; exact Nat.ne_of_lt (blk_lt (g := gb181) (Bq BK181.out)) : gb181 ≠ gb204))
                   have n10_ := Aside0.mk ((by rw [hg]; exact Nat.ne_of_gt (blk_lt (g := gb181) (Bq BK181.out)) : gb204 ≠ gb181))
                   have n11_ := Aside0.mk ((by rw [hg]; exact Nat.ne_of_lt (blk_lt (g := gb182) (Bq BK182.out)) : gb182 ≠ gb204))
                   have n12_ := Aside0.mk ((by rw [hg]; exact Nat.ne_of_gt (blk_lt (g := gb182) (Bq BK182.out)) : gb204 ≠ gb182))
                   clear BK180
                   clear BK181
                   clear BK182
                   clear HB
                   have BK180 := n0_
                   have BK181 := n1_
                   have BK182 := n2_
                   have HB := n3_
                   have BK204 := n4_
                   have GW204 := n5_
                   have GE204 := n6_
                   have NB180_204 := n7_
                   have NB204_180 := n8_
                   have NB181_204 := n9_
                   have NB204_181 := n10_
                   have NB182_204 := n11_
                   have NB204_182 := n12_
                   clear n0_ n1_ n2_ n3_ n4_ n5_ n6_ n7_ n8_ n9_ n10_ n11_ n12_
                   clear hb hbox hg
                   refine hK.out _ _ ⟨(blk_cell BK180.out 0).trans rfl, (blk_cell BK180.out 1).trans rfl, (blk_cell BK180.out 2).trans rfl, (blk_cell BK181.out 0).trans rfl, (blk_cell BK181.out 1).trans rfl, (blk_cell BK181.out 2).trans rfl⟩ (fun hHeld => ?_)
                   clear hK K
                   refine norm_ (a' := ?_) ?_ ?_
                   rotate_left
                   ·show Act.put _ (some 7) _ = _
                    simp only [Act.put, List.setIfInBounds_toArray, List.set_cons_zero, List.set_cons_succ, i64_w, i32_w]
                    rfl
                   exact norm_ (by first | (simp only [putAll, Act.put, List.setIfInBounds_toArray, List.set_cons_zero, List.set_cons_succ]; done) | (simp only [putAll, Act.put, List.setIfInBounds_toArray, List.set_cons_zero, List.set_cons_succ]; rfl)) (hJ5 (gb204) _ ⟨hHeld, (Bq BK180.out), (Bq BK181.out), (Bq BK182.out), (Bq BK204.out), GW204.out, GE204.out, NB180_204.out, NB204_180.out, NB181_204.out, NB204_181.out, NB182_204.out, NB204_182.out, (W4 HB.out GE180.out GE181.out GE182.out GE204.out)⟩)
                 ·skip
                  rintro gb204 w32 ⟨hS_, h0_, h1_, h2_, h3_, h4_, h5_, h6_, h7_, h8_, h9_, h10_, h11_, h12_⟩
                  have n0_ : Aside0 (w32.heap[gb180]? = some (.cells #[.slice A0_0 l0_0.length c0_0, .slice A0_1 l0_1.length c0_1, .slice A0_2 l0_2.length c0_2] 26 (0, 0))) := ⟨h0_⟩
                  have n1_ : Aside0 (w32.heap[gb181]? = some (.cells #[.slice A1_0 l1_0.length c1_0, .slice A1_1 l1_1.length c1_1, .slice A1_2 l1_2.length c1_2] 26 (0, 0))) := ⟨h1_⟩
                  have n2_ : Aside0 (w32.heap[gb182]? = some (.cells #[.slice none 0 0, .slice none 0 0, .slice none 0 0] 26 (0, 0))) := ⟨h2_⟩
                  have n3_ : Aside0 (w32.heap[gb204]? = some (.cells #[.slice none 0 0, .slice none 0 0, .slice none 0 0] 26 (0, 0))) := ⟨h3_⟩
                  have n4_ : Aside0 (w.heap.size ≤ gb204) := ⟨h4_⟩
                  have n5_ : Aside0 (w.heap.size ≤ gb204) := ⟨h5_⟩
                  have n6_ : Aside0 (gb180 ≠ gb204) := ⟨h6_⟩
                  have n7_ : Aside0 (gb204 ≠ gb180) := ⟨h7_⟩
                  have n8_ : Aside0 (gb181 ≠ gb204) := ⟨h8_⟩
                  have n9_ : Aside0 (gb204 ≠ gb181) := ⟨h9_⟩
                  have n10_ : Aside0 (gb182 ≠ gb204) := ⟨h10_⟩
                  have n11_ : Aside0 (gb204 ≠ gb182) := ⟨h11_⟩
                  have n12_ : Aside0 (Below w.heap.size w w32) := ⟨h12_⟩
                  clear BK180
                  clear BK181
                  clear BK182
                  clear HB
                  clear h0_ h1_ h2_ h3_ h4_ h5_ h6_ h7_ h8_ h9_ h10_ h11_ h12_
                  have BK180 := n0_
                  have BK181 := n1_
                  have BK182 := n2_
                  have BK204 := n3_
                  have GW204 := n4_
                  have GE204 := n5_
                  have NB180_204 := n6_
                  have NB204_180 := n7_
                  have NB181_204 := n8_
                  have NB204_181 := n9_
                  have NB182_204 := n10_
                  have NB204_182 := n11_
                  have HB := n12_
                  clear n0_ n1_ n2_ n3_ n4_ n5_ n6_ n7_ n8_ n9_ n10_ n11_ n12_
                  have hHeld : w32.cell? ⟨gb180, 0, none⟩ = some (.slice A0_0 l0_0.length c0_0) ∧ w32.cell? ⟨gb180, 1, none⟩ = some (.slice A0_1 l0_1.length c0_1) ∧ w32.cell? ⟨gb180, 2, none⟩ = some (.slice A0_2 l0_2.length c0_2) ∧ w32.cell? ⟨gb181, 0, none⟩ = some (.slice A1_0 l1_0.length c1_0) ∧ w32.cell? ⟨gb181, 1, none⟩ = some (.slice A1_1 l1_1.length c1_1) ∧ w32.cell? ⟨gb181, 2, none⟩ = some (.slice A1_2 l1_2.length c1_2) := hS_
                  refine norm_ (a' := ?_) ?_ ?_
                  rotate_left
                  ·simp only [putAll, Act.put, List.setIfInBounds_toArray, List.set_cons_zero, List.set_cons_succ]
                   rfl
                  refine two_ (i := 1) (j := 4) (Ni := some 18) (Nj := some 6) #[true, true, true, false, false, true, false, false] #[true, false, true, false, true, true, false, false] rfl rfl rfl rfl (two_of HT_.out (by kernel_rfl)) (by decide) (by decide) (fun K hK => ?_) (fun K hK => ?_)
                  ·skip
                   refine goes_ Tryd.func12 (by kernel_rfl) rfl #[.agg #[.slice A0_0 l0_0.length c0_0, .slice A0_1 l0_1.length c0_1, .slice A0_2 l0_2.length c0_2]] (by rfl) rfl rfl (by (try simp only [List.map_toArray, List.map_cons, List.map_nil]); first | done | rfl | (simp only [List.length_drop, List.length_take]; rfl) | (simp; done)) ?_
                   with_reducible refine (depotref00_CopyRequest.calls kj2 _ _ l0_0 _ _ l0_1 _ _ l0_2 t185 t188 t191 _ ?side1 ?side2 ?side3 ?side4 ?side5 ?side6 A25.out).mono ?_
                   (case side1 => exact Cq HR0_0.out HB.out)
                   (case side2 => exact HC0_0.out)
                   (case side3 => exact Cq HR0_1.out HB.out)
                   (case side4 => exact HC0_1.out)
                   (case side5 => exact Cq HR0_2.out HB.out)
                   (case side6 => exact HC0_2.out)
                   rintro e w33 ⟨v186, v189, v192, rfl, ho0, ho1, ho2, hb⟩
                   refine ⟨_, rfl, ?_⟩
                   have n0_ := Aside0.mk (Kd.N_lower (Kd.N_mono (ok' := fun k_ => (w.heap.size ≤ k_) ∧ some k_ ≠ (v189 : Value).ownBlock ∧ some k_ ≠ (v192 : Value).ownBlock ∧ k_ ≠ gb180 ∧ k_ ≠ gb181 ∧ k_ ≠ gb182 ∧ k_ ≠ gb204) (Kd.S_N (Kd.S_bound (Kd.S_apart' ho0 (Kd.R_typed ho2) (by decide)))) (fun k_ hk_ => ⟨(Nat.le_trans (below_size (W4 HB.out GE180.out GE181.out GE182.out GE204.out)) hk_.2.1), hk_.1.1, hk_.1.2, (Kd.freshB (g := gb180) (Bq BK180.out) k_ hk_.2.1), (Kd.freshB (g := gb181) (Bq BK181.out) k_ hk_.2.1), (Kd.freshB (g := gb182) (Bq BK182.out) k_ hk_.2.1), (Kd.freshB (g := gb204) (Bq BK204.out) k_ hk_.2.1)⟩)) (below_size (W4 HB.out GE180.out GE181.out GE182.out GE204.out)))
                   have n1_ := Aside0.mk (Kd.R_lower (Kd.R_newM (M := fun k_ => (w.heap.size ≤ k_)) ho1 (below_size (W4 HB.out GE180.out GE181.out GE182.out GE204.out)) (fun k_ h_ => h_)) (below_size (W4 HB.out GE180.out GE181.out GE182.out GE204.out)))
                   have n2_ := Aside0.mk (Kd.R_lower (Kd.R_newM (M := fun k_ => (w.heap.size ≤ k_)) ho2 (below_size (W4 HB.out GE180.out GE181.out GE182.out GE204.out)) (fun k_ h_ => h_)) (below_size (W4 HB.out GE180.out GE181.out GE182.out GE204.out)))
                   have n3_ := Aside0.mk (blk_below (g := gb180) (Bq BK180.out) hb)
                   have n4_ := Aside0.mk (blk_below (g := gb181) (Bq BK181.out) hb)
                   have n5_ := Aside0.mk (blk_below (g := gb182) (Bq BK182.out) hb)
                   have n6_ := Aside0.mk (blk_below (g := gb204) (Bq BK204.out) hb)
                   have n7_ := Aside0.mk (below_step (W4 HB.out GE180.out GE181.out GE182.out GE204.out) hb)
                   clear BK180
                   clear BK181
                   clear BK182
                   clear BK204
                   clear HB
                   have HO187 := n0_
                   have HO190 := n1_
                   have HO193 := n2_
                   have BK180 := n3_
                   have BK181 := n4_
                   have BK182 := n5_
                   have BK204 := n6_
                   have HB := n7_
                   clear n0_ n1_ n2_ n3_ n4_ n5_ n6_ n7_
                   (try clear hb)
                   (try clear hb2)
                   (try clear hk)
                   (try clear hi)
                   (try clear ho0)
                   (try clear ho1)
                   (try clear ho2)
                   refine hK.out _ _ ⟨(blk_cell BK180.out 0).trans rfl, (blk_cell BK180.out 1).trans rfl, (blk_cell BK180.out 2).trans rfl, (blk_cell BK181.out 0).trans rfl, (blk_cell BK181.out 1).trans rfl, (blk_cell BK181.out 2).trans rfl⟩ (fun hHeld => ?_)
                   clear hK K
                   refine norm_ (a' := ?_) ?_ ?_
                   rotate_left
                   ·show Act.put _ (some 18) _ = _
                    simp only [Act.put, List.setIfInBounds_toArray, List.set_cons_zero, List.set_cons_succ, i64_w, i32_w]
                    rfl
                   exact norm_ (by first | (simp only [putAll, Act.put, List.setIfInBounds_toArray, List.set_cons_zero, List.set_cons_succ]; done) | (simp only [putAll, Act.put, List.setIfInBounds_toArray, List.set_cons_zero, List.set_cons_succ]; rfl)) (hJ1_5 (v186, v189, v192, gb204) _ ⟨hHeld, (Nq HO187.out), (by (with_reducible repeat (first | apply Kd.R_alloc | apply Kd.R_drewN | apply Kd.R_drew)); exact Kd.R_mono HO190.out (fun _ hk => hk.1)), (by (with_reducible repeat (first | apply Kd.R_alloc | apply Kd.R_drewN | apply Kd.R_drew)); exact Kd.R_mono HO193.out (fun _ hk => hk.1)), (Bq BK180.out), (Bq BK181.out), (Bq BK182.out), (Bq BK204.out), GW204.out, GE204.out, NB180_204.out, NB204_180.out, NB181_204.out, NB204_181.out, NB182_204.out, NB204_182.out, (W4 HB.out GE180.out GE181.out GE182.out GE204.out)⟩)
                  ·skip
                   refine box_step ?hg (N := 6) ?hd (cs := #[.slice none 0 0, .slice none 0 0, .slice none 0 0]) (t := 26) ?hr ?_; (case hd => rfl); (case hg => rfl); (case hr => first | (go_simp; done) | (go_simp; rfl))
                   intro gb203 hg w33 hbox hb
                   have n0_ := Aside0.mk (blk_below (g := gb180) (Bq BK180.out) hb)
                   have n1_ := Aside0.mk (blk_below (g := gb181) (Bq BK181.out) hb)
                   have n2_ := Aside0.mk (blk_below (g := gb182) (Bq BK182.out) hb)
                   have n3_ := Aside0.mk (blk_below (g := gb204) (Bq BK204.out) hb)
                   have n4_ := Aside0.mk (below_step (W4 HB.out GE180.out GE181.out GE182.out GE204.out) hb)
                   have n5_ := Aside0.mk (hbox)
                   have n6_ := Aside0.mk ((by rw [hg]; exact (below_size (W4 HB.out GE180.out GE181.out GE182.out GE204.out)) : w.heap.size ≤ gb203))
                   have n7_ := Aside0.mk ((by rw [hg]; exact (below_size (W4 HB.out GE180.out GE181.out GE182.out GE204.out)) : w.heap.size ≤ gb203))
                   have n8_ := Aside0.mk ((by rw [hg]; exact Nat.ne_of_lt (blk_lt (g := gb180) (Bq BK180.out)) : gb180 ≠ gb203))
                   have n9_ := Aside0.mk ((by rw [hg]; exact Nat.ne_of_gt (blk_lt (g := gb180) (Bq BK180.out)) : gb203 ≠ gb180))
                   have n10_ := Aside0.mk ((by rw [hg]; exact Nat.ne_of_lt (blk_lt (g := gb181) (Bq BK181.out)) : gb181 ≠ gb203))
                   have n11_ := Aside0.mk ((by rw [hg]; exact Nat.ne_of_gt (blk_lt (g := gb181) (Bq BK181.out)) : gb203 ≠ gb181))
                   have n12_ := Aside0.mk ((by rw [hg]; exact Nat.ne_of_lt (blk_lt (g := gb182) (Bq BK182.out)) : gb182 ≠ gb203))
                   have n13_ := Aside0.mk ((by rw [hg]; exact Nat.ne_of_gt (blk_lt (g := gb182) (Bq BK182.out)) : gb203 ≠ gb182))
                   have n14_ := Aside0.mk ((by rw [hg]; exact Nat.ne_of_lt (blk_lt (g := gb204) (Bq BK204.out)) : gb204 ≠ gb203))
                   have n15_ := Aside0.mk ((by rw [hg]; exact Nat.ne_of_gt (blk_lt (g := gb204) (Bq BK204.out)) : gb203 ≠ gb204))
                   clear BK180
                   clear BK181
                   clear BK182
                   clear BK204
                   clear HB
                   have BK180 := n0_
                   have BK181 := n1_
                   have BK182 := n2_
                   have BK204 := n3_
                   have HB := n4_
                   have BK203 := n5_
                   have GW203 := n6_
                   have GE203 := n7_
                   have NB180_203 := n8_
                   have NB203_180 := n9_
                   have NB181_203 := n10_
                   have NB203_181 := n11_
                   have NB182_203 := n12_
                   have NB203_182 := n13_
                   have NB204_203 := n14_
                   have NB203_204 := n15_
                   clear n0_ n1_ n2_ n3_ n4_ n5_ n6_ n7_ n8_ n9_ n10_ n11_ n12_ n13_ n14_ n15_
                   clear hb hbox hg
                   refine hK.out _ _ ⟨(blk_cell BK180.out 0).trans rfl, (blk_cell BK180.out 1).trans rfl, (blk_cell BK180.out 2).trans rfl, (blk_cell BK181.out 0).trans rfl, (blk_cell BK181.out 1).trans rfl, (blk_cell BK181.out 2).trans rfl⟩ (fun hHeld => ?_)
                   clear hK K
                   refine norm_ (a' := ?_) ?_ ?_
                   rotate_left
                   ·show Act.put _ (some 6) _ = _
                    simp only [Act.put, List.setIfInBounds_toArray, List.set_cons_zero, List.set_cons_succ, i64_w, i32_w]
                    rfl
                   exact norm_ (by first | (simp only [putAll, Act.put, List.setIfInBounds_toArray, List.set_cons_zero, List.set_cons_succ]; done) | (simp only [putAll, Act.put, List.setIfInBounds_toArray, List.set_cons_zero, List.set_cons_succ]; rfl)) (hJ4_5 (gb203, gb204) _ ⟨hHeld, (Bq BK180.out), (Bq BK181.out), (Bq BK182.out), (Bq BK203.out), (Bq BK204.out), GW203.out, GE203.out, NB180_203.out, NB203_180.out, NB181_203.out, NB203_181.out, NB182_203.out, NB203_182.out, NB204_203.out, NB203_204.out, GW204.out, GE204.out, NB180_204.out, NB204_180.out, NB181_204.out, NB204_181.out, NB182_204.out, NB204_182.out, (W5 HB.out GE180.out GE181.out GE182.out GE204.out GE203.out)⟩)
                ·skip
                 rintro gb203 w32 ⟨hS_, h0_, h1_, h2_, h3_, h4_, h5_, h6_, h7_, h8_, h9_, h10_, h11_, h12_⟩
                 have n0_ : Aside0 (w32.heap[gb180]? = some (.cells #[.slice A0_0 l0_0.length c0_0, .slice A0_1 l0_1.length c0_1, .slice A0_2 l0_2.length c0_2] 26 (0, 0))) := ⟨h0_⟩
                 have n1_ : Aside0 (w32.heap[gb181]? = some (.cells #[.slice A1_0 l1_0.length c1_0, .slice A1_1 l1_1.length c1_1, .slice A1_2 l1_2.length c1_2] 26 (0, 0))) := ⟨h1_⟩
                 have n2_ : Aside0 (w32.heap[gb182]? = some (.cells #[.slice none 0 0, .slice none 0 0, .slice none 0 0] 26 (0, 0))) := ⟨h2_⟩
                 have n3_ : Aside0 (w32.heap[gb203]? = some (.cells #[.slice none 0 0, .slice none 0 0, .slice none 0 0] 26 (0, 0))) := ⟨h3_⟩
                 have n4_ : Aside0 (w.heap.size ≤ gb203) := ⟨h4_⟩
                 have n5_ : Aside0 (w.heap.size ≤ gb203) := ⟨h5_⟩
                 have n6_ : Aside0 (gb180 ≠ gb203) := ⟨h6_⟩
                 have n7_ : Aside0 (gb203 ≠ gb180) := ⟨h7_⟩
                 have n8_ : Aside0 (gb181 ≠ gb203) := ⟨h8_⟩
                 have n9_ : Aside0 (gb203 ≠ gb181) := ⟨h9_⟩
                 have n10_ : Aside0 (gb182 ≠ gb203) := ⟨h10_⟩
                 have n11_ : Aside0 (gb203 ≠ gb182) := ⟨h11_⟩
                 have n12_ : Aside0 (Below w.heap.size w w32) := ⟨h12_⟩
                 clear BK180
                 clear BK181
                 clear BK182
                 clear HB
                 clear h0_ h1_ h2_ h3_ h4_ h5_ h6_ h7_ h8_ h9_ h10_ h11_ h12_
                 have BK180 := n0_
                 have BK181 := n1_
                 have BK182 := n2_
                 have BK203 := n3_
                 have GW203 := n4_
                 have GE203 := n5_
                 have NB180_203 := n6_
                 have NB203_180 := n7_
                 have NB181_203 := n8_
                 have NB203_181 := n9_
                 have NB182_203 := n10_
                 have NB203_182 := n11_
                 have HB := n12_
                 clear n0_ n1_ n2_ n3_ n4_ n5_ n6_ n7_ n8_ n9_ n10_ n11_ n12_
                 have hHeld : w32.cell? ⟨gb180, 0, none⟩ = some (.slice A0_0 l0_0.length c0_0) ∧ w32.cell? ⟨gb180, 1, none⟩ = some (.slice A0_1 l0_1.length c0_1) ∧ w32.cell? ⟨gb180, 2, none⟩ = some (.slice A0_2 l0_2.length c0_2) ∧ w32.cell? ⟨gb181, 0, none⟩ = some (.slice A1_0 l1_0.length c1_0) ∧ w32.cell? ⟨gb181, 1, none⟩ = some (.slice A1_1 l1_1.length c1_1) ∧ w32.cell? ⟨gb181, 2, none⟩ = some (.slice A1_2 l1_2.length c1_2) := hS_
                 refine norm_ (a' := ?_) ?_ ?_
                 rotate_left
                 ·simp only [putAll, Act.put, List.setIfInBounds_toArray, List.set_cons_zero, List.set_cons_succ]
                  rfl
                 refine two_ (i := 1) (j := 5) (Ni := some 18) (Nj := some 7) #[true, true, true, false, true, false, false, false] #[true, false, true, false, true, true, false, false] rfl rfl rfl rfl (two_of HT_.out (by kernel_rfl)) (by decide) (by decide) (fun K hK => ?_) (fun K hK => ?_)
                 ·skip
                  refine goes_ Tryd.func12 (by kernel_rfl) rfl #[.agg #[.slice A0_0 l0_0.length c0_0, .slice A0_1 l0_1.length c0_1, .slice A0_2 l0_2.length c0_2]] (by rfl) rfl rfl (by (try simp only [List.map_toArray, List.map_cons, List.map_nil]); first | done | rfl | (simp only [List.length_drop, List.length_take]; rfl) | (simp; done)) ?_
                  with_reducible refine (depotref00_CopyRequest.calls kj2 _ _ l0_0 _ _ l0_1 _ _ l0_2 t185 t188 t191 _ ?side1 ?side2 ?side3 ?side4 ?side5 ?side6 A25.out).mono ?_
                  (case side1 => exact Cq HR0_0.out HB.out)
                  (case side2 => exact HC0_0.out)
                  (case side3 => exact Cq HR0_1.out HB.out)
                  (case side4 => exact HC0_1.out)
                  (case side5 => exact Cq HR0_2.out HB.out)
                  (case side6 => exact HC0_2.out)
                  rintro e w33 ⟨v186, v189, v192, rfl, ho0, ho1, ho2, hb⟩
                  refine ⟨_, rfl, ?_⟩
                  have n0_ := Aside0.mk (Kd.N_lower (Kd.N_mono (ok' := fun k_ => (w.heap.size ≤ k_) ∧ some k_ ≠ (v189 : Value).ownBlock ∧ some k_ ≠ (v192 : Value).ownBlock ∧ k_ ≠ gb180 ∧ k_ ≠ gb181 ∧ k_ ≠ gb182 ∧ k_ ≠ gb203) (Kd.S_N (Kd.S_bound (Kd.S_apart' ho0 (Kd.R_typed ho2) (by decide)))) (fun k_ hk_ => ⟨(Nat.le_trans (below_size (W4 HB.out GE180.out GE181.out GE182.out GE203.out)) hk_.2.1), hk_.1.1, hk_.1.2, (Kd.freshB (g := gb180) (Bq BK180.out) k_ hk_.2.1), (Kd.freshB (g := gb181) (Bq BK181.out) k_ hk_.2.1), (Kd.freshB (g := gb182) (Bq BK182.out) k_ hk_.2.1), (Kd.freshB (g := gb203) (Bq BK203.out) k_ hk_.2.1)⟩)) (below_size (W4 HB.out GE180.out GE181.out GE182.out GE203.out)))
                  have n1_ := Aside0.mk (Kd.R_lower (Kd.R_newM (M := fun k_ => (w.heap.size ≤ k_)) ho1 (below_size (W4 HB.out GE180.out GE181.out GE182.out GE203.out)) (fun k_ h_ => h_)) (below_size (W4 HB.out GE180.out GE181.out GE182.out GE203.out)))
                  have n2_ := Aside0.mk (Kd.R_lower (Kd.R_newM (M := fun k_ => (w.heap.size ≤ k_)) ho2 (below_size (W4 HB.out GE180.out GE181.out GE182.out GE203.out)) (fun k_ h_ => h_)) (below_size (W4 HB.out GE180.out GE181.out GE182.out GE203.out)))
                  have n3_ := Aside0.mk (blk_below (g := gb180) (Bq BK180.out) hb)
                  have n4_ := Aside0.mk (blk_below (g := gb181) (Bq BK181.out) hb)
                  have n5_ := Aside0.mk (blk_below (g := gb182) (Bq BK182.out) hb)
                  have n6_ := Aside0.mk (blk_below (g := gb203) (Bq BK203.out) hb)
                  have n7_ := Aside0.mk (below_step (W4 HB.out GE180.out GE181.out GE182.out GE203.out) hb)
                  clear BK180
                  clear BK181
                  clear BK182
                  clear BK203
                  clear HB
                  have HO187 := n0_
                  have HO190 := n1_
                  have HO193 := n2_
                  have BK180 := n3_
                  have BK181 := n4_
                  have BK182 := n5_
                  have BK203 := n6_
                  have HB := n7_
                  clear n0_ n1_ n2_ n3_ n4_ n5_ n6_ n7_
                  (try clear hb)
                  (try clear hb2)
                  (try clear hk)
                  (try clear hi)
                  (try clear ho0)
                  (try clear ho1)
                  (try clear ho2)
                  refine hK.out _ _ ⟨(blk_cell BK180.out 0).trans rfl, (blk_cell BK180.out 1).trans rfl, (blk_cell BK180.out 2).trans rfl, (blk_cell BK181.out 0).trans rfl, (blk_cell BK181.out 1).trans rfl, (blk_cell BK181.out 2).trans rfl⟩ (fun hHeld => ?_)
                  clear hK K
                  refine norm_ (a' := ?_) ?_ ?_
                  rotate_left
                  ·show Act.put _ (some 18) _ = _
                   simp only [Act.put, List.setIfInBounds_toArray, List.set_cons_zero, List.set_cons_succ, i64_w, i32_w]
                   rfl
                  exact norm_ (by first | (simp only [putAll, Act.put, List.setIfInBounds_toArray, List.set_cons_zero, List.set_cons_succ]; done) | (simp only [putAll, Act.put, List.setIfInBounds_toArray, List.set_cons_zero, List.set_cons_succ]; rfl)) (hJ1_4 (v186, v189, v192, gb203) _ ⟨hHeld, (Nq HO187.out), (by (with_reducible repeat (first | apply Kd.R_alloc | apply Kd.R_drewN | apply Kd.R_drew)); exact Kd.R_mono HO190.out (fun _ hk => hk.1)), (by (with_reducible repeat (first | apply Kd.R_alloc | apply Kd.R_drewN | apply Kd.R_drew)); exact Kd.R_mono HO193.out (fun _ hk => hk.1)), (Bq BK180.out), (Bq BK181.out), (Bq BK182.out), (Bq BK203.out), GW203.out, GE203.out, NB180_203.out, NB203_180.out, NB181_203.out, NB203_181.out, NB182_203.out, NB203_182.out, (W4 HB.out GE180.out GE181.out GE182.out GE203.out)⟩)
                 ·skip
                  refine box_step ?hg (N := 7) ?hd (cs := #[.slice none 0 0, .slice none 0 0, .slice none 0 0]) (t := 26) ?hr ?_; (case hd => rfl); (case hg => rfl); (case hr => first | (go_simp; done) | (go_simp; rfl))
                  intro gb204 hg w33 hbox hb
                  have n0_ := Aside0.mk (blk_below (g := gb180) (Bq BK180.out) hb)
                  have n1_ := Aside0.mk (blk_below (g := gb181) (Bq BK181.out) hb)
                  have n2_ := Aside0.mk (blk_below (g := gb182) (Bq BK182.out) hb)
                  have n3_ := Aside0.mk (blk_below (g := gb203) (Bq BK203.out) hb)
                  have n4_ := Aside0.mk (below_step (W4 HB.out GE180.out GE181.out GE182.out GE203.out) hb)
                  have n5_ := Aside0.mk (hbox)
                  have n6_ := Aside0.mk ((by rw [hg]; exact (below_size (W4 HB.out GE180.out GE181.out GE182.out GE203.out)) : w.heap.size ≤ gb204))
                  have n7_ := Aside0.mk ((by rw [hg]; exact (below_size (W4 HB.out GE180.out GE181.out GE182.out GE203.out)) : w.heap.size ≤ gb204))
                  have n8_ := Aside0.mk ((by rw [hg]; exact Nat.ne_of_lt (blk_lt (g := gb180) (Bq BK180.out)) : gb180 ≠ gb204))
                  have n9_ := Aside0.mk ((by rw [hg]; exact Nat.ne_of_gt (blk_lt (g := gb180) (Bq BK180.out)) : gb204 ≠ gb180))
                  have n10_ := Aside0.mk ((by rw [hg]; exact Nat.ne_of_lt (blk_lt (g := gb181) (Bq BK181.out)) : gb181 ≠ gb204))
                  have n11_ := Aside0.mk ((by rw [hg]; exact Nat.ne_of_gt (blk_lt (g := gb181) (Bq BK181.out)) : gb204 ≠ gb181))
                  have n12_ := Aside0.mk ((by rw [hg]; exact Nat.ne_of_lt (blk_lt (g := gb182) (Bq BK182.out)) : gb182 ≠ gb204))
                  have n13_ := Aside0.mk ((by rw [hg]; exact Nat.ne_of_gt (blk_lt (g := gb182) (Bq BK182.out)) : gb204 ≠ gb182))
                  have n14_ := Aside0.mk ((by rw [hg]; exact Nat.ne_of_lt (blk_lt (g := gb203) (Bq BK203.out)) : gb203 ≠ gb204))
                  have n15_ := Aside0.mk ((by rw [hg]; exact Nat.ne_of_gt (blk_lt (g := gb203) (Bq BK203.out)) : gb204 ≠ gb203))
                  clear BK180
                  clear BK181
                  clear BK182
                  clear BK203
                  clear HB
                  have BK180 := n0_
                  have BK181 := n1_
                  have BK182 := n2_
                  have BK203 := n3_
                  have HB := n4_
                  have BK204 := n5_
                  have GW204 := n6_
                  have GE204 := n7_
                  have NB180_204 := n8_
                  have NB204_180 := n9_
                  have NB181_204 := n10_
                  have NB204_181 := n11_
                  have NB182_204 := n12_
                  have NB204_182 := n13_
                  have NB203_204 := n14_
                  have NB204_203 := n15_
                  clear n0_ n1_ n2_ n3_ n4_ n5_ n6_ n7_ n8_ n9_ n10_ n11_ n12_ n13_ n14_ n15_
                  clear hb hbox hg
                  refine hK.out _ _ ⟨(blk_cell BK180.out 0).trans rfl, (blk_cell BK180.out 1).trans rfl, (blk_cell BK180.out 2).trans rfl, (blk_cell BK181.out 0).trans rfl, (blk_cell BK181.out 1).trans rfl, (blk_cell BK181.out 2).trans rfl⟩ (fun hHeld => ?_)
                  clear hK K
                  refine norm_ (a' := ?_) ?_ ?_
                  rotate_left
                  ·show Act.put _ (some 7) _ = _
                   simp only [Act.put, List.setIfInBounds_toArray, List.set_cons_zero, List.set_cons_succ, i64_w, i32_w]
                   rfl
                  exact norm_ (by first | (simp only [putAll, Act.put, List.setIfInBounds_toArray, List.set_cons_zero, List.set_cons_succ]; done) | (simp only [putAll, Act.put, List.setIfInBounds_toArray, List.set_cons_zero, List.set_cons_succ]; rfl)) (hJ4_5 (gb203, gb204) _ ⟨hHeld, (Bq BK180.out), (Bq BK181.out), (Bq BK182.out), (Bq BK203.out), (Bq BK204.out), GW203.out, GE203.out, NB180_203.out, NB203_180.out, NB181_203.out, NB203_181.out, NB182_203.out, NB203_182.out, NB204_203.out, NB203_204.out, GW204.out, GE204.out, NB180_204.out, NB204_180.out, NB181_204.out, NB204_181.out, NB182_204.out, NB204_182.out, (W5 HB.out GE180.out GE181.out GE182.out GE203.out GE204.out)⟩)
               ·skip
                rintro ⟨v186, v189, v192⟩ w32 ⟨hS_, h0_, h1_, h2_, h3_, h4_, h5_, h6_⟩
                have n0_ : Aside0 (Kd.N (Kd.slice 46 k46) 23 w32 w.heap.size (fun k_ => (w.heap.size ≤ k_) ∧ some k_ ≠ (v189 : Value).ownBlock ∧ some k_ ≠ (v192 : Value).ownBlock ∧ k_ ≠ gb180 ∧ k_ ≠ gb181 ∧ k_ ≠ gb182) v186 t185) := ⟨h0_⟩
                have n1_ : Aside0 (Kd.R k46 46 w32 w.heap.size (fun k_ => (w.heap.size ≤ k_)) v189 t188) := ⟨h1_⟩
                have n2_ : Aside0 (Kd.R k48 48 w32 w.heap.size (fun k_ => (w.heap.size ≤ k_)) v192 t191) := ⟨h2_⟩
                have n3_ : Aside0 (w32.heap[gb180]? = some (.cells #[.slice A0_0 l0_0.length c0_0, .slice A0_1 l0_1.length c0_1, .slice A0_2 l0_2.length c0_2] 26 (0, 0))) := ⟨h3_⟩
                have n4_ : Aside0 (w32.heap[gb181]? = some (.cells #[.slice A1_0 l1_0.length c1_0, .slice A1_1 l1_1.length c1_1, .slice A1_2 l1_2.length c1_2] 26 (0, 0))) := ⟨h4_⟩
                have n5_ : Aside0 (w32.heap[gb182]? = some (.cells #[.slice none 0 0, .slice none 0 0, .slice none 0 0] 26 (0, 0))) := ⟨h5_⟩
                have n6_ : Aside0 (Below w.heap.size w w32) := ⟨h6_⟩
                clear BK180
                clear BK181
                clear BK182
                clear HB
                clear h0_ h1_ h2_ h3_ h4_ h5_ h6_
                have HO187 := n0_
                have HO190 := n1_
                have HO193 := n2_
                have BK180 := n3_
                have BK181 := n4_
                have BK182 := n5_
                have HB := n6_
                clear n0_ n1_ n2_ n3_ n4_ n5_ n6_
                have hHeld : w32.cell? ⟨gb180, 0, none⟩ = some (.slice A0_0 l0_0.length c0_0) ∧ w32.cell? ⟨gb180, 1, none⟩ = some (.slice A0_1 l0_1.length c0_1) ∧ w32.cell? ⟨gb180, 2, none⟩ = some (.slice A0_2 l0_2.length c0_2) ∧ w32.cell? ⟨gb181, 0, none⟩ = some (.slice A1_0 l1_0.length c1_0) ∧ w32.cell? ⟨gb181, 1, none⟩ = some (.slice A1_1 l1_1.length c1_1) ∧ w32.cell? ⟨gb181, 2, none⟩ = some (.slice A1_2 l1_2.length c1_2) := hS_
                refine norm_ (a' := ?_) ?_ ?_
                rotate_left
                ·simp only [putAll, Act.put, List.setIfInBounds_toArray, List.set_cons_zero, List.set_cons_succ]
                 rfl
                refine three_ (i := 3) (j := 4) (k := 5) (Ni := some 20) (Nj := some 6) (Nk := some 7) #[true, true, true, true, false, false, false, false] #[true, true, true, false, true, false, false, false] #[true, true, true, false, false, true, false, false] rfl rfl rfl rfl rfl rfl (three_of HT_.out (by kernel_rfl)) (by decide) (by decide) (by decide) (fun K hK => ?_) (fun K hK => ?_) (fun K hK => ?_)
                ·skip
                 refine goes_ Tryd.func12 (by kernel_rfl) rfl #[.agg #[.slice A1_0 l1_0.length c1_0, .slice A1_1 l1_1.length c1_1, .slice A1_2 l1_2.length c1_2]] (by rfl) rfl rfl (by (try simp only [List.map_toArray, List.map_cons, List.map_nil]); first | done | rfl | (simp only [List.length_drop, List.length_take]; rfl) | (simp; done)) ?_
                 with_reducible refine (depotref00_CopyRequest.calls kj2 _ _ l1_0 _ _ l1_1 _ _ l1_2 t194 t197 t200 _ ?side1 ?side2 ?side3 ?side4 ?side5 ?side6 A26.out).mono ?_
                 (case side1 => exact Cq HR1_0.out HB.out)
                 (case side2 => exact HC1_0.out)
                 (case side3 => exact Cq HR1_1.out HB.out)
                 (case side4 => exact HC1_1.out)
                 (case side5 => exact Cq HR1_2.out HB.out)
                 (case side6 => exact HC1_2.out)
                 rintro e w33 ⟨v195, v198, v201, rfl, ho0, ho1, ho2, hb⟩
                 refine ⟨_, rfl, ?_⟩
                 have n0_ := Aside0.mk (Kd.N_mono (Kd.N_told (Kd.N_told (Kd.N_told (Kd.N_old (Nq HO187.out) hb) (by first | exact Kd.N_base ho0 | exact Kd.S_base ho0)) (Kd.R_base ho1)) (Kd.R_base ho2)) (fun _ h_ => h_.1))
                 have n1_ := Aside0.mk (Kd.R_elder' (Rq HO190.out) (Kd.R_base ho1) hb)
                 have n2_ := Aside0.mk (Kd.R_elder' (Rq HO193.out) (Kd.R_base ho2) hb)
                 have n3_ := Aside0.mk (Kd.N_lower (Kd.N_mono (ok' := fun k_ => (w.heap.size ≤ k_) ∧ some k_ ≠ (v198 : Value).ownBlock ∧ some k_ ≠ (v201 : Value).ownBlock ∧ some k_ ≠ (v186 : Value).ownBlock ∧ some k_ ≠ (v189 : Value).ownBlock ∧ some k_ ≠ (v192 : Value).ownBlock ∧ k_ ≠ gb180 ∧ k_ ≠ gb181 ∧ k_ ≠ gb182) (Kd.S_N (Kd.S_bound (Kd.S_apart' ho0 (Kd.R_typed ho2) (by decide)))) (fun k_ hk_ => ⟨(Nat.le_trans (below_size (W3 HB.out GE180.out GE181.out GE182.out)) hk_.2.1), hk_.1.1, hk_.1.2, (Kd.fresh' (Kd.N_lt (Nq HO187.out)) k_ hk_.2.1), (Kd.fresh' (Kd.R_lt (Rq HO190.out)) k_ hk_.2.1), (Kd.fresh' (Kd.R_lt (Rq HO193.out)) k_ hk_.2.1), (Kd.freshB (g := gb180) (Bq BK180.out) k_ hk_.2.1), (Kd.freshB (g := gb181) (Bq BK181.out) k_ hk_.2.1), (Kd.freshB (g := gb182) (Bq BK182.out) k_ hk_.2.1)⟩)) (below_size (W3 HB.out GE180.out GE181.out GE182.out)))
                 have n4_ := Aside0.mk (Kd.R_lower (Kd.R_new' (Kd.R_newM (M := fun k_ => (w.heap.size ≤ k_)) ho1 (below_size (W3 HB.out GE180.out GE181.out GE182.out)) (fun k_ h_ => h_)) (Kd.R_lt (Rq HO190.out))) (below_size (W3 HB.out GE180.out GE181.out GE182.out)))
                 have n5_ := Aside0.mk (Kd.R_lower (Kd.R_new' (Kd.R_newM (M := fun k_ => (w.heap.size ≤ k_)) ho2 (below_size (W3 HB.out GE180.out GE181.out GE182.out)) (fun k_ h_ => h_)) (Kd.R_lt (Rq HO193.out))) (below_size (W3 HB.out GE180.out GE181.out GE182.out)))
                 have n6_ := Aside0.mk (blk_below (g := gb180) (Bq BK180.out) hb)
                 have n7_ := Aside0.mk (blk_below (g := gb181) (Bq BK181.out) hb)
                 have n8_ := Aside0.mk (blk_below (g := gb182) (Bq BK182.out) hb)
                 have n9_ := Aside0.mk (below_step (W3 HB.out GE180.out GE181.out GE182.out) hb)
                 clear HO187
                 clear HO190
                 clear HO193
                 clear BK180
                 clear BK181
                 clear BK182
                 clear HB
                 have HO187 := n0_
                 have HO190 := n1_
                 have HO193 := n2_
                 have HO196 := n3_
                 have HO199 := n4_
                 have HO202 := n5_
                 have BK180 := n6_
                 have BK181 := n7_
                 have BK182 := n8_
                 have HB := n9_
                 clear n0_ n1_ n2_ n3_ n4_ n5_ n6_ n7_ n8_ n9_
                 (try clear hb)
                 (try clear hb2)
                 (try clear hk)
                 (try clear hi)
                 (try clear ho0)
                 (try clear ho1)
                 (try clear ho2)
                 refine hK.out _ _ ⟨(blk_cell BK180.out 0).trans rfl, (blk_cell BK180.out 1).trans rfl, (blk_cell BK180.out 2).trans rfl, (blk_cell BK181.out 0).trans rfl, (blk_cell BK181.out 1).trans rfl, (blk_cell BK181.out 2).trans rfl⟩ (fun hHeld => ?_)
                 clear hK K
                 refine norm_ (a' := ?_) ?_ ?_
                 rotate_left
                 ·show Act.put _ (some 20) _ = _
                  simp only [Act.put, List.setIfInBounds_toArray, List.set_cons_zero, List.set_cons_succ, i64_w, i32_w]
                  rfl
                 exact norm_ (by first | (simp only [putAll, Act.put, List.setIfInBounds_toArray, List.set_cons_zero, List.set_cons_succ]; done) | (simp only [putAll, Act.put, List.setIfInBounds_toArray, List.set_cons_zero, List.set_cons_succ]; rfl)) (hJ1_3 (v186, v189, v192, v195, v198, v201) _ ⟨hHeld, (by (with_reducible repeat (first | apply Kd.N_alloc | apply Kd.N_drewN | apply Kd.N_drew)); exact Kd.N_mono HO187.out (fun _ hk => ⟨hk.1.1.1.1, ⟨hk.1.1.1.2.1, ⟨hk.1.1.1.2.2.1, ⟨hk.1.1.2, ⟨hk.1.2, ⟨hk.2, ⟨hk.1.1.1.2.2.2.1, ⟨hk.1.1.1.2.2.2.2.1, hk.1.1.1.2.2.2.2.2⟩⟩⟩⟩⟩⟩⟩⟩)), (Rq HO190.out), (Rq HO193.out), (by (with_reducible repeat (first | apply Kd.N_alloc | apply Kd.N_drewN | apply Kd.N_drew)); exact Kd.N_mono HO196.out (fun _ hk => ⟨hk.1, ⟨hk.2.2.2.1, ⟨hk.2.2.2.2.1, ⟨hk.2.2.2.2.2.1, ⟨hk.2.1, ⟨hk.2.2.1, ⟨hk.2.2.2.2.2.2.1, ⟨hk.2.2.2.2.2.2.2.1, hk.2.2.2.2.2.2.2.2⟩⟩⟩⟩⟩⟩⟩⟩)), (by (with_reducible repeat (first | apply Kd.R_alloc | apply Kd.R_drewN | apply Kd.R_drew)); exact Kd.R_mono HO199.out (fun _ hk => ⟨hk.1.1, hk.2⟩)), (by (with_reducible repeat (first | apply Kd.R_alloc | apply Kd.R_drewN | apply Kd.R_drew)); exact Kd.R_mono HO202.out (fun _ hk => ⟨hk.1.1, hk.2⟩)), (Bq BK180.out), (Bq BK181.out), (Bq BK182.out), (W3 HB.out GE180.out GE181.out GE182.out)⟩)
                ·skip
                 refine box_step ?hg (N := 6) ?hd (cs := #[.slice none 0 0, .slice none 0 0, .slice none 0 0]) (t := 26) ?hr ?_; (case hd => rfl); (case hg => rfl); (case hr => first | (go_simp; done) | (go_simp; rfl))
                 intro gb203 hg w33 hbox hb
                 have n0_ := Aside0.mk (Kd.N_below (Kd.N_elderB (Nq HO187.out) gb203 (Nat.le_of_eq hg.symm)) hb)
                 have n1_ := Aside0.mk (Kd.R_below (Rq HO190.out) hb)
                 have n2_ := Aside0.mk (Kd.R_below (Rq HO193.out) hb)
                 have n3_ := Aside0.mk (blk_below (g := gb180) (Bq BK180.out) hb)
                 have n4_ := Aside0.mk (blk_below (g := gb181) (Bq BK181.out) hb)
                 have n5_ := Aside0.mk (blk_below (g := gb182) (Bq BK182.out) hb)
                 have n6_ := Aside0.mk (below_step (W3 HB.out GE180.out GE181.out GE182.out) hb)
                 have n7_ := Aside0.mk (hbox)
                 have n8_ := Aside0.mk ((by rw [hg]; exact (below_size (W3 HB.out GE180.out GE181.out GE182.out)) : w.heap.size ≤ gb203))
                 have n9_ := Aside0.mk ((by rw [hg]; exact (below_size (W3 HB.out GE180.out GE181.out GE182.out)) : w.heap.size ≤ gb203))
                 have n10_ := Aside0.mk ((by rw [hg]; exact Nat.ne_of_lt (blk_lt (g := gb180) (Bq BK180.out)) : gb180 ≠ gb203))
                 have n11_ := Aside0.mk ((by rw [hg]; exact Nat.ne_of_gt (blk_lt (g := gb180) (Bq BK180.out)) : gb203 ≠ gb180))
                 have n12_ := Aside0.mk ((by rw [hg]; exact Nat.ne_of_lt (blk_lt (g := gb181) (Bq BK181.out)) : gb181 ≠ gb203))
                 have n13_ := Aside0.mk ((by rw [hg]; exact Nat.ne_of_gt (blk_lt (g := gb181) (Bq BK181.out)) : gb203 ≠ gb181))
                 have n14_ := Aside0.mk ((by rw [hg]; exact Nat.ne_of_lt (blk_lt (g := gb182) (Bq BK182.out)) : gb182 ≠ gb203))
                 have n15_ := Aside0.mk ((by rw [hg]; exact Nat.ne_of_gt (blk_lt (g := gb182) (Bq BK182.out)) : gb203 ≠ gb182))
                 clear HO187
                 clear HO190
                 clear HO193
                 clear BK180
                 clear BK181
                 clear BK182
                 clear HB
                 have HO187 := n0_
                 have HO190 := n1_
                 have HO193 := n2_
                 have BK180 := n3_
                 have BK181 := n4_
                 have BK182 := n5_
                 have HB := n6_
                 have BK203 := n7_
                 have GW203 := n8_
                 have GE203 := n9_
                 have NB180_203 := n10_
                 have NB203_180 := n11_
                 have NB181_203 := n12_
                 have NB203_181 := n13_
                 have NB182_203 := n14_
                 have NB203_182 := n15_
                 clear n0_ n1_ n2_ n3_ n4_ n5_ n6_ n7_ n8_ n9_ n10_ n11_ n12_ n13_ n14_ n15_
                 clear hb hbox hg
                 refine hK.out _ _ ⟨(blk_cell BK180.out 0).trans rfl, (blk_cell BK180.out 1).trans rfl, (blk_cell BK180.out 2).trans rfl, (blk_cell BK181.out 0).trans rfl, (blk_cell BK181.out 1).trans rfl, (blk_cell BK181.out 2).trans rfl⟩ (fun hHeld => ?_)
                 clear hK K
                 refine norm_ (a' := ?_) ?_ ?_
                 rotate_left
                 ·show Act.put _ (some 6) _ = _
                  simp only [Act.put, List.setIfInBounds_toArray, List.set_cons_zero, List.set_cons_succ, i64_w, i32_w]
                  rfl
                 exact norm_ (by first | (simp only [putAll, Act.put, List.setIfInBounds_toArray, List.set_cons_zero, List.set_cons_succ]; done) | (simp only [putAll, Act.put, List.setIfInBounds_toArray, List.set_cons_zero, List.set_cons_succ]; rfl)) (hJ1_4 (v186, v189, v192, gb203) _ ⟨hHeld, (by (with_reducible repeat (first | apply Kd.N_alloc | apply Kd.N_drewN | apply Kd.N_drew)); exact Kd.N_mono HO187.out (fun _ hk => ⟨hk.1.1, ⟨hk.1.2.1, ⟨hk.1.2.2.1, ⟨hk.1.2.2.2.1, ⟨hk.1.2.2.2.2.1, ⟨hk.1.2.2.2.2.2, hk.2⟩⟩⟩⟩⟩⟩)), (Rq HO190.out), (Rq HO193.out), (Bq BK180.out), (Bq BK181.out), (Bq BK182.out), (Bq BK203.out), GW203.out, GE203.out, NB180_203.out, NB203_180.out, NB181_203.out, NB203_181.out, NB182_203.out, NB203_182.out, (W4 HB.out GE180.out GE181.out GE182.out GE203.out)⟩)
                ·skip
                 refine box_step ?hg (N := 7) ?hd (cs := #[.slice none 0 0, .slice none 0 0, .slice none 0 0]) (t := 26) ?hr ?_; (case hd => rfl); (case hg => rfl); (case hr => first | (go_simp; done) | (go_simp; rfl))
                 intro gb204 hg w33 hbox hb
                 have n0_ := Aside0.mk (Kd.N_below (Kd.N_elderB (Nq HO187.out) gb204 (Nat.le_of_eq hg.symm)) hb)
                 have n1_ := Aside0.mk (Kd.R_below (Rq HO190.out) hb)
                 have n2_ := Aside0.mk (Kd.R_below (Rq HO193.out) hb)
                 have n3_ := Aside0.mk (blk_below (g := gb180) (Bq BK180.out) hb)
                 have n4_ := Aside0.mk (blk_below (g := gb181) (Bq BK181.out) hb)
                 have n5_ := Aside0.mk (blk_below (g := gb182) (Bq BK182.out) hb)
                 have n6_ := Aside0.mk (below_step (W3 HB.out GE180.out GE181.out GE182.out) hb)
                 have n7_ := Aside0.mk (hbox)
                 have n8_ := Aside0.mk ((by rw [hg]; exact (below_size (W3 HB.out GE180.out GE181.out GE182.out)) : w.heap.size ≤ gb204))
                 have n9_ := Aside0.mk ((by rw [hg]; exact (below_size (W3 HB.out GE180.out GE181.out GE182.out)) : w.heap.size ≤ gb204))
                 have n10_ := Aside0.mk ((by rw [hg]; exact Nat.ne_of_lt (blk_lt (g := gb180) (Bq BK180.out)) : gb180 ≠ gb204))
                 have n11_ := Aside0.mk ((by rw [hg]; exact Nat.ne_of_gt (blk_lt (g := gb180) (Bq BK180.out)) : gb204 ≠ gb180))
                 have n12_ := Aside0.mk ((by rw [hg]; exact Nat.ne_of_lt (blk_lt (g := gb181) (Bq BK181.out)) : gb181 ≠ gb204))
                 have n13_ := Aside0.mk ((by rw [hg]; exact Nat.ne_of_gt (blk_lt (g := gb181) (Bq BK181.out)) : gb204 ≠ gb181))
                 have n14_ := Aside0.mk ((by rw [hg]; exact Nat.ne_of_lt (blk_lt (g := gb182) (Bq BK182.out)) : gb182 ≠ gb204))
                 have n15_ := Aside0.mk ((by rw [hg]; exact Nat.ne_of_gt (blk_lt (g := gb182) (Bq BK182.out)) : gb204 ≠ gb182))
                 clear HO187
                 clear HO190
                 clear HO193
                 clear BK180
                 clear BK181
                 clear BK182
                 clear HB
                 have HO187 := n0_
                 have HO190 := n1_
                 have HO193 := n2_
                 have BK180 := n3_
                 have BK181 := n4_
                 have BK182 := n5_
                 have HB := n6_
                 have BK204 := n7_
                 have GW204 := n8_
                 have GE204 := n9_
                 have NB180_204 := n10_
                 have NB204_180 := n11_
                 have NB181_204 := n12_
                 have NB204_181 := n13_
                 have NB182_204 := n14_
                 have NB204_182 := n15_
                 clear n0_ n1_ n2_ n3_ n4_ n5_ n6_ n7_ n8_ n9_ n10_ n11_ n12_ n13_ n14_ n15_
                 clear hb hbox hg
                 refine hK.out _ _ ⟨(blk_cell BK180.out 0).trans rfl, (blk_cell BK180.out 1).trans rfl, (blk_cell BK180.out 2).trans rfl, (blk_cell BK181.out 0).trans rfl, (blk_cell BK181.out 1).trans rfl, (blk_cell BK181.out 2).trans rfl⟩ (fun hHeld => ?_)
                 clear hK K
                 refine norm_ (a' := ?_) ?_ ?_
                 rotate_left
                 ·show Act.put _ (some 7) _ = _
                  simp only [Act.put, List.setIfInBounds_toArray, List.set_cons_zero, List.set_cons_succ, i64_w, i32_w]
                  rfl
                 exact norm_ (by first | (simp only [putAll, Act.put, List.setIfInBounds_toArray, List.set_cons_zero, List.set_cons_succ]; done) | (simp only [putAll, Act.put, List.setIfInBounds_toArray, List.set_cons_zero, List.set_cons_succ]; rfl)) (hJ1_5 (v186, v189, v192, gb204) _ ⟨hHeld, (by (with_reducible repeat (first | apply Kd.N_alloc | apply Kd.N_drewN | apply Kd.N_drew)); exact Kd.N_mono HO187.out (fun _ hk => ⟨hk.1.1, ⟨hk.1.2.1, ⟨hk.1.2.2.1, ⟨hk.1.2.2.2.1, ⟨hk.1.2.2.2.2.1, ⟨hk.1.2.2.2.2.2, hk.2⟩⟩⟩⟩⟩⟩)), (Rq HO190.out), (Rq HO193.out), (Bq BK180.out), (Bq BK181.out), (Bq BK182.out), (Bq BK204.out), GW204.out, GE204.out, NB180_204.out, NB204_180.out, NB181_204.out, NB204_181.out, NB182_204.out, NB204_182.out, (W4 HB.out GE180.out GE181.out GE182.out GE204.out)⟩)
              ·skip
               rintro ⟨gb203, gb204⟩ w33 ⟨hS_, h0_, h1_, h2_, h3_, h4_, h5_, h6_, h7_, h8_, h9_, h10_, h11_, h12_, h13_, h14_, h15_, h16_, h17_, h18_, h19_, h20_, h21_, h22_, h23_⟩
               have n0_ : Aside0 (w33.heap[gb180]? = some (.cells #[.slice A0_0 l0_0.length c0_0, .slice A0_1 l0_1.length c0_1, .slice A0_2 l0_2.length c0_2] 26 (0, 0))) := ⟨h0_⟩
               have n1_ : Aside0 (w33.heap[gb181]? = some (.cells #[.slice A1_0 l1_0.length c1_0, .slice A1_1 l1_1.length c1_1, .slice A1_2 l1_2.length c1_2] 26 (0, 0))) := ⟨h1_⟩
               have n2_ : Aside0 (w33.heap[gb182]? = some (.cells #[.slice none 0 0, .slice none 0 0, .slice none 0 0] 26 (0, 0))) := ⟨h2_⟩
               have n3_ : Aside0 (w33.heap[gb203]? = some (.cells #[.slice none 0 0, .slice none 0 0, .slice none 0 0] 26 (0, 0))) := ⟨h3_⟩
               have n4_ : Aside0 (w33.heap[gb204]? = some (.cells #[.slice none 0 0, .slice none 0 0, .slice none 0 0] 26 (0, 0))) := ⟨h4_⟩
               have n5_ : Aside0 (w.heap.size ≤ gb203) := ⟨h5_⟩
               have n6_ : Aside0 (w.heap.size ≤ gb203) := ⟨h6_⟩
               have n7_ : Aside0 (gb180 ≠ gb203) := ⟨h7_⟩
               have n8_ : Aside0 (gb203 ≠ gb180) := ⟨h8_⟩
               have n9_ : Aside0 (gb181 ≠ gb203) := ⟨h9_⟩
               have n10_ : Aside0 (gb203 ≠ gb181) := ⟨h10_⟩
               have n11_ : Aside0 (gb182 ≠ gb203) := ⟨h11_⟩
               have n12_ : Aside0 (gb203 ≠ gb182) := ⟨h12_⟩
               have n13_ : Aside0 (gb204 ≠ gb203) := ⟨h13_⟩
               have n14_ : Aside0 (gb203 ≠ gb204) := ⟨h14_⟩
               have n15_ : Aside0 (w.heap.size ≤ gb204) := ⟨h15_⟩
               have n16_ : Aside0 (w.heap.size ≤ gb204) := ⟨h16_⟩
               have n17_ : Aside0 (gb180 ≠ gb204) := ⟨h17_⟩
               have n18_ : Aside0 (gb204 ≠ gb180) := ⟨h18_⟩
               have n19_ : Aside0 (gb181 ≠ gb204) := ⟨h19_⟩
               have n20_ : Aside0 (gb204 ≠ gb181) := ⟨h20_⟩
               have n21_ : Aside0 (gb182 ≠ gb204) := ⟨h21_⟩
               have n22_ : Aside0 (gb204 ≠ gb182) := ⟨h22_⟩
               have n23_ : Aside0 (Below w.heap.size w w33) := ⟨h23_⟩
               clear BK180
               clear BK181
               clear BK182
               clear HB
               clear h0_ h1_ h2_ h3_ h4_ h5_ h6_ h7_ h8_ h9_ h10_ h11_ h12_ h13_ h14_ h15_ h16_ h17_ h18_ h19_ h20_ h21_ h22_ h23_
               have BK180 := n0_
               have BK181 := n1_
               have BK182 := n2_
               have BK203 := n3_
               have BK204 := n4_
               have GW203 := n5_
               have GE203 := n6_
               have NB180_203 := n7_
               have NB203_180 := n8_
               have NB181_203 := n9_
               have NB203_181 := n10_
               have NB182_203 := n11_
               have NB203_182 := n12_
               have NB204_203 := n13_
               have NB203_204 := n14_
               have GW204 := n15_
               have GE204 := n16_
               have NB180_204 := n17_
               have NB204_180 := n18_
               have NB181_204 := n19_
               have NB204_181 := n20_
               have NB182_204 := n21_
               have NB204_182 := n22_
               have HB := n23_
               clear n0_ n1_ n2_ n3_ n4_ n5_ n6_ n7_ n8_ n9_ n10_ n11_ n12_ n13_ n14_ n15_ n16_ n17_ n18_ n19_ n20_ n21_ n22_ n23_
               have hHeld : w33.cell? ⟨gb180, 0, none⟩ = some (.slice A0_0 l0_0.length c0_0) ∧ w33.cell? ⟨gb180, 1, none⟩ = some (.slice A0_1 l0_1.length c0_1) ∧ w33.cell? ⟨gb180, 2, none⟩ = some (.slice A0_2 l0_2.length c0_2) ∧ w33.cell? ⟨gb181, 0, none⟩ = some (.slice A1_0 l1_0.length c1_0) ∧ w33.cell? ⟨gb181, 1, none⟩ = some (.slice A1_1 l1_1.length c1_1) ∧ w33.cell? ⟨gb181, 2, none⟩ = some (.slice A1_2 l1_2.length c1_2) := hS_
               refine norm_ (a' := ?_) ?_ ?_
               rotate_left
               ·simp only [putAll, Act.put, List.setIfInBounds_toArray, List.set_cons_zero, List.set_cons_succ]
                rfl
               refine one_ (i := 1) (N := some 18) #[true, true, true, false, true, true, false, false] rfl rfl (one_of HT_.out (by kernel_rfl)) (by decide) (fun K hK => ?_)
               refine goes_ Tryd.func12 (by kernel_rfl) rfl #[.agg #[.slice A0_0 l0_0.length c0_0, .slice A0_1 l0_1.length c0_1, .slice A0_2 l0_2.length c0_2]] (by rfl) rfl rfl (by (try simp only [List.map_toArray, List.map_cons, List.map_nil]); first | done | rfl | (simp only [List.length_drop, List.length_take]; rfl) | (simp; done)) ?_
               with_reducible refine (depotref00_CopyRequest.calls kj2 _ _ l0_0 _ _ l0_1 _ _ l0_2 t185 t188 t191 _ ?side1 ?side2 ?side3 ?side4 ?side5 ?side6 A25.out).mono ?_
               (case side1 => exact Cq HR0_0.out HB.out)
               (case side2 => exact HC0_0.out)
               (case side3 => exact Cq HR0_1.out HB.out)
               (case side4 => exact HC0_1.out)
               (case side5 => exact Cq HR0_2.out HB.out)
               (case side6 => exact HC0_2.out)
               rintro e w34 ⟨v186, v189, v192, rfl, ho0, ho1, ho2, hb⟩
               refine ⟨_, rfl, ?_⟩
               have n0_ := Aside0.mk (Kd.N_lower (Kd.N_mono (ok' := fun k_ => (w.heap.size ≤ k_) ∧ some k_ ≠ (v189 : Value).ownBlock ∧ some k_ ≠ (v192 : Value).ownBlock ∧ k_ ≠ gb180 ∧ k_ ≠ gb181 ∧ k_ ≠ gb182 ∧ k_ ≠ gb203 ∧ k_ ≠ gb204) (Kd.S_N (Kd.S_bound (Kd.S_apart' ho0 (Kd.R_typed ho2) (by decide)))) (fun k_ hk_ => ⟨(Nat.le_trans (below_size (W5 HB.out GE180.out GE181.out GE182.out GE203.out GE204.out)) hk_.2.1), hk_.1.1, hk_.1.2, (Kd.freshB (g := gb180) (Bq BK180.out) k_ hk_.2.1), (Kd.freshB (g := gb181) (Bq BK181.out) k_ hk_.2.1), (Kd.freshB (g := gb182) (Bq BK182.out) k_ hk_.2.1), (Kd.freshB (g := gb203) (Bq BK203.out) k_ hk_.2.1), (Kd.freshB (g := gb204) (Bq BK204.out) k_ hk_.2.1)⟩)) (below_size (W5 HB.out GE180.out GE181.out GE182.out GE203.out GE204.out)))
               have n1_ := Aside0.mk (Kd.R_lower (Kd.R_newM (M := fun k_ => (w.heap.size ≤ k_)) ho1 (below_size (W5 HB.out GE180.out GE181.out GE182.out GE203.out GE204.out)) (fun k_ h_ => h_)) (below_size (W5 HB.out GE180.out GE181.out GE182.out GE203.out GE204.out)))
               have n2_ := Aside0.mk (Kd.R_lower (Kd.R_newM (M := fun k_ => (w.heap.size ≤ k_)) ho2 (below_size (W5 HB.out GE180.out GE181.out GE182.out GE203.out GE204.out)) (fun k_ h_ => h_)) (below_size (W5 HB.out GE180.out GE181.out GE182.out GE203.out GE204.out)))
               have n3_ := Aside0.mk (blk_below (g := gb180) (Bq BK180.out) hb)
               have n4_ := Aside0.mk (blk_below (g := gb181) (Bq BK181.out) hb)
               have n5_ := Aside0.mk (blk_below (g := gb182) (Bq BK182.out) hb)
               have n6_ := Aside0.mk (blk_below (g := gb203) (Bq BK203.out) hb)
               have n7_ := Aside0.mk (blk_below (g := gb204) (Bq BK204.out) hb)
               have n8_ := Aside0.mk (below_step (W5 HB.out GE180.out GE181.out GE182.out GE203.out GE204.out) hb)
               clear BK180
               clear BK181
               clear BK182
               clear BK203
               clear BK204
               clear HB
               have HO187 := n0_
               have HO190 := n1_
               have HO193 := n2_
               have BK180 := n3_
               have BK181 := n4_
               have BK182 := n5_
               have BK203 := n6_
               have BK204 := n7_
               have HB := n8_
               clear n0_ n1_ n2_ n3_ n4_ n5_ n6_ n7_ n8_
               (try clear hb)
               (try clear hb2)
               (try clear hk)
               (try clear hi)
               (try clear ho0)
               (try clear ho1)
               (try clear ho2)
               refine hK.out _ _ ⟨(blk_cell BK180.out 0).trans rfl, (blk_cell BK180.out 1).trans rfl, (blk_cell BK180.out 2).trans rfl, (blk_cell BK181.out 0).trans rfl, (blk_cell BK181.out 1).trans rfl, (blk_cell BK181.out 2).trans rfl⟩ (fun hHeld => ?_)
               clear hK K
               refine norm_ (a' := ?_) ?_ ?_
               rotate_left
               ·show Act.put _ (some 18) _ = _
                simp only [Act.put, List.setIfInBounds_toArray, List.set_cons_zero, List.set_cons_succ, i64_w, i32_w]
                rfl
               exact norm_ (by first | (simp only [putAll, Act.put, List.setIfInBounds_toArray, List.set_cons_zero, List.set_cons_succ]; done) | (simp only [putAll, Act.put, List.setIfInBounds_toArray, List.set_cons_zero, List.set_cons_succ]; rfl)) (hJ1_4_5 (v186, v189, v192, gb203, gb204) _ ⟨hHeld, (Nq HO187.out), (by (with_reducible repeat (first | apply Kd.R_alloc | apply Kd.R_drewN | apply Kd.R_drew)); exact Kd.R_mono HO190.out (fun _ hk => hk.1)), (by (with_reducible repeat (first | apply Kd.R_alloc | apply Kd.R_drewN | apply Kd.R_drew)); exact Kd.R_mono HO193.out (fun _ hk => hk.1)), (Bq BK180.out), (Bq BK181.out), (Bq BK182.out), (Bq BK203.out), (Bq BK204.out), GW203.out, GE203.out, NB180_203.out, NB203_180.out, NB181_203.out, NB203_181.out, NB182_203.out, NB203_182.out, NB204_203.out, NB203_204.out, GW204.out, GE204.out, NB180_204.out, NB204_180.out, NB181_204.out, NB204_181.out, NB182_204.out, NB204_182.out, (W5 HB.out GE180.out GE181.out GE182.out GE203.out GE204.out)⟩)
             ·skip
              rintro ⟨v186, v189, v192, gb204⟩ w33 ⟨hS_, h0_, h1_, h2_, h3_, h4_, h5_, h6_, h7_, h8_, h9_, h10_, h11_, h12_, h13_, h14_, h15_⟩
              have n0_ : Aside0 (Kd.N (Kd.slice 46 k46) 23 w33 w.heap.size (fun k_ => (w.heap.size ≤ k_) ∧ some k_ ≠ (v189 : Value).ownBlock ∧ some k_ ≠ (v192 : Value).ownBlock ∧ k_ ≠ gb180 ∧ k_ ≠ gb181 ∧ k_ ≠ gb182 ∧ k_ ≠ gb204) v186 t185) := ⟨h0_⟩
              have n1_ : Aside0 (Kd.R k46 46 w33 w.heap.size (fun k_ => (w.heap.size ≤ k_)) v189 t188) := ⟨h1_⟩
              have n2_ : Aside0 (Kd.R k48 48 w33 w.heap.size (fun k_ => (w.heap.size ≤ k_)) v192 t191) := ⟨h2_⟩
              have n3_ : Aside0 (w33.heap[gb180]? = some (.cells #[.slice A0_0 l0_0.length c0_0, .slice A0_1 l0_1.length c0_1, .slice A0_2 l0_2.length c0_2] 26 (0, 0))) := ⟨h3_⟩
              have n4_ : Aside0 (w33.heap[gb181]? = some (.cells #[.slice A1_0 l1_0.length c1_0, .slice A1_1 l1_1.length c1_1, .slice A1_2 l1_2.length c1_2] 26 (0, 0))) := ⟨h4_⟩
              have n5_ : Aside0 (w33.heap[gb182]? = some (.cells #[.slice none 0 0, .slice none 0 0, .slice none 0 0] 26 (0, 0))) := ⟨h5_⟩
              have n6_ : Aside0 (w33.heap[gb204]? = some (.cells #[.slice none 0 0, .slice none 0 0, .slice none 0 0] 26 (0, 0))) := ⟨h6_⟩
              have n7_ : Aside0 (w.heap.size ≤ gb204) := ⟨h7_⟩
              have n8_ : Aside0 (w.heap.size ≤ gb204) := ⟨h8_⟩
              have n9_ : Aside0 (gb180 ≠ gb204) := ⟨h9_⟩
              have n10_ : Aside0 (gb204 ≠ gb180) := ⟨h10_⟩
              have n11_ : Aside0 (gb181 ≠ gb204) := ⟨h11_⟩
              have n12_ : Aside0 (gb204 ≠ gb181) := ⟨h12_⟩
              have n13_ : Aside0 (gb182 ≠ gb204) := ⟨h13_⟩
              have n14_ : Aside0 (gb204 ≠ gb182) := ⟨h14_⟩
              have n15_ : Aside0 (Below w.heap.size w w33) := ⟨h15_⟩
              clear BK180
              clear BK181
              clear BK182
              clear HB
              clear h0_ h1_ h2_ h3_ h4_ h5_ h6_ h7_ h8_ h9_ h10_ h11_ h12_ h13_ h14_ h15_
              have HO187 := n0_
              have HO190 := n1_
              have HO193 := n2_
              have BK180 := n3_
              have BK181 := n4_
              have BK182 := n5_
              have BK204 := n6_
              have GW204 := n7_
              have GE204 := n8_
              have NB180_204 := n9_
              have NB204_180 := n10_
              have NB181_204 := n11_
              have NB204_181 := n12_
              have NB182_204 := n13_
              have NB204_182 := n14_
              have HB := n15_
              clear n0_ n1_ n2_ n3_ n4_ n5_ n6_ n7_ n8_ n9_ n10_ n11_ n12_ n13_ n14_ n15_
              have hHeld : w33.cell? ⟨gb180, 0, none⟩ = some (.slice A0_0 l0_0.length c0_0) ∧ w33.cell? ⟨gb180, 1, none⟩ = some (.slice A0_1 l0_1.length c0_1) ∧ w33.cell? ⟨gb180, 2, none⟩ = some (.slice A0_2 l0_2.length c0_2) ∧ w33.cell? ⟨gb181, 0, none⟩ = some (.slice A1_0 l1_0.length c1_0) ∧ w33.cell? ⟨gb181, 1, none⟩ = some (.slice A1_1 l1_1.length c1_1) ∧ w33.cell? ⟨gb181, 2, none⟩ = some (.slice A1_2 l1_2.length c1_2) := hS_
              refine norm_ (a' := ?_) ?_ ?_
              rotate_left
              ·simp only [putAll, Act.put, List.setIfInBounds_toArray, List.set_cons_zero, List.set_cons_succ]
               rfl
              refine two_ (i := 3) (j := 4) (Ni := some 20) (Nj := some 6) #[true, true, true, true, false, true, false, false] #[true, true, true, false, true, true, false, false] rfl rfl rfl rfl (two_of HT_.out (by kernel_rfl)) (by decide) (by decide) (fun K hK => ?_) (fun K hK => ?_)
              ·skip
               refine goes_ Tryd.func12 (by kernel_rfl) rfl #[.agg #[.slice A1_0 l1_0.length c1_0, .slice A1_1 l1_1.length c1_1, .slice A1_2 l1_2.length c1_2]] (by rfl) rfl rfl (by (try simp only [List.map_toArray, List.map_cons, List.map_nil]); first | done | rfl | (simp only [List.length_drop, List.length_take]; rfl) | (simp; done)) ?_
               with_reducible refine (depotref00_CopyRequest.calls kj2 _ _ l1_0 _ _ l1_1 _ _ l1_2 t194 t197 t200 _ ?side1 ?side2 ?side3 ?side4 ?side5 ?side6 A26.out).mono ?_
               (case side1 => exact Cq HR1_0.out HB.out)
               (case side2 => exact HC1_0.out)
               (case side3 => exact Cq HR1_1.out HB.out)
               (case side4 => exact HC1_1.out)
               (case side5 => exact Cq HR1_2.out HB.out)
               (case side6 => exact HC1_2.out)
               rintro e w34 ⟨v195, v198, v201, rfl, ho0, ho1, ho2, hb⟩
               refine ⟨_, rfl, ?_⟩
               have n0_ := Aside0.mk (Kd.N_mono (Kd.N_told (Kd.N_told (Kd.N_told (Kd.N_old (Nq HO187.out) hb) (by first | exact Kd.N_base ho0 | exact Kd.S_base ho0)) (Kd.R_base ho1)) (Kd.R_base ho2)) (fun _ h_ => h_.1))
               have n1_ := Aside0.mk (Kd.R_elder' (Rq HO190.out) (Kd.R_base ho1) hb)
               have n2_ := Aside0.mk (Kd.R_elder' (Rq HO193.out) (Kd.R_base ho2) hb)
               have n3_ := Aside0.mk (Kd.N_lower (Kd.N_mono (ok' := fun k_ => (w.heap.size ≤ k_) ∧ some k_ ≠ (v198 : Value).ownBlock ∧ some k_ ≠ (v201 : Value).ownBlock ∧ some k_ ≠ (v186 : Value).ownBlock ∧ some k_ ≠ (v189 : Value).ownBlock ∧ some k_ ≠ (v192 : Value).ownBlock ∧ k_ ≠ gb180 ∧ k_ ≠ gb181 ∧ k_ ≠ gb182 ∧ k_ ≠ gb204) (Kd.S_N (Kd.S_bound (Kd.S_apart' ho0 (Kd.R_typed ho2) (by decide)))) (fun k_ hk_ => ⟨(Nat.le_trans (below_size (W4 HB.out GE180.out GE181.out GE182.out GE204.out)) hk_.2.1), hk_.1.1, hk_.1.2, (Kd.fresh' (Kd.N_lt (Nq HO187.out)) k_ hk_.2.1), (Kd.fresh' (Kd.R_lt (Rq HO190.out)) k_ hk_.2.1), (Kd.fresh' (Kd.R_lt (Rq HO193.out)) k_ hk_.2.1), (Kd.freshB (g := gb180) (Bq BK180.out) k_ hk_.2.1), (Kd.freshB (g := gb181) (Bq BK181.out) k_ hk_.2.1), (Kd.freshB (g := gb182) (Bq BK182.out) k_ hk_.2.1), (Kd.freshB (g := gb204) (Bq BK204.out) k_ hk_.2.1)⟩)) (below_size (W4 HB.out GE180.out GE181.out GE182.out GE204.out)))
               have n4_ := Aside0.mk (Kd.R_lower (Kd.R_new' (Kd.R_newM (M := fun k_ => (w.heap.size ≤ k_)) ho1 (below_size (W4 HB.out GE180.out GE181.out GE182.out GE204.out)) (fun k_ h_ => h_)) (Kd.R_lt (Rq HO190.out))) (below_size (W4 HB.out GE180.out GE181.out GE182.out GE204.out)))
               have n5_ := Aside0.mk (Kd.R_lower (Kd.R_new' (Kd.R_newM (M := fun k_ => (w.heap.size ≤ k_)) ho2 (below_size (W4 HB.out GE180.out GE181.out GE182.out GE204.out)) (fun k_ h_ => h_)) (Kd.R_lt (Rq HO193.out))) (below_size (W4 HB.out GE180.out GE181.out GE182.out GE204.out)))
               have n6_ := Aside0.mk (blk_below (g := gb180) (Bq BK180.out) hb)
               have n7_ := Aside0.mk (blk_below (g := gb181) (Bq BK181.out) hb)
               have n8_ := Aside0.mk (blk_below (g := gb182) (Bq BK182.out) hb)
               have n9_ := Aside0.mk (blk_below (g := gb204) (Bq BK204.out) hb)
               have n10_ := Aside0.mk (below_step (W4 HB.out GE180.out GE181.out GE182.out GE204.out) hb)
               clear HO187
               clear HO190
               clear HO193
               clear BK180
               clear BK181
               clear BK182
               clear BK204
               clear HB
               have HO187 := n0_
               have HO190 := n1_
               have HO193 := n2_
               have HO196 := n3_
               have HO199 := n4_
               have HO202 := n5_
               have BK180 := n6_
               have BK181 := n7_
               have BK182 := n8_
               have BK204 := n9_
               have HB := n10_
               clear n0_ n1_ n2_ n3_ n4_ n5_ n6_ n7_ n8_ n9_ n10_
               (try clear hb)
               (try clear hb2)
               (try clear hk)
               (try clear hi)
               (try clear ho0)
               (try clear ho1)
               (try clear ho2)
               refine hK.out _ _ ⟨(blk_cell BK180.out 0).trans rfl, (blk_cell BK180.out 1).trans rfl, (blk_cell BK180.out 2).trans rfl, (blk_cell BK181.out 0).trans rfl, (blk_cell BK181.out 1).trans rfl, (blk_cell BK181.out 2).trans rfl⟩ (fun hHeld => ?_)
               clear hK K
               refine norm_ (a' := ?_) ?_ ?_
               rotate_left
               ·show Act.put _ (some 20) _ = _
                simp only [Act.put, List.setIfInBounds_toArray, List.set_cons_zero, List.set_cons_succ, i64_w, i32_w]
                rfl
               exact norm_ (by first | (simp only [putAll, Act.put, List.setIfInBounds_toArray, List.set_cons_zero, List.set_cons_succ]; done) | (simp only [putAll, Act.put, List.setIfInBounds_toArray, List.set_cons_zero, List.set_cons_succ]; rfl)) (hJ1_3_5 (v186, v189, v192, v195, v198, v201, gb204) _ ⟨hHeld, (by (with_reducible repeat (first | apply Kd.N_alloc | apply Kd.N_drewN | apply Kd.N_drew)); exact Kd.N_mono HO187.out (fun _ hk => ⟨hk.1.1.1.1, ⟨hk.1.1.1.2.1, ⟨hk.1.1.1.2.2.1, ⟨hk.1.1.2, ⟨hk.1.2, ⟨hk.2, ⟨hk.1.1.1.2.2.2.1, ⟨hk.1.1.1.2.2.2.2.1, ⟨hk.1.1.1.2.2.2.2.2.1, hk.1.1.1.2.2.2.2.2.2⟩⟩⟩⟩⟩⟩⟩⟩⟩)), (Rq HO190.out), (Rq HO193.out), (by (with_reducible repeat (first | apply Kd.N_alloc | apply Kd.N_drewN | apply Kd.N_drew)); exact Kd.N_mono HO196.out (fun _ hk => ⟨hk.1, ⟨hk.2.2.2.1, ⟨hk.2.2.2.2.1, ⟨hk.2.2.2.2.2.1, ⟨hk.2.1, ⟨hk.2.2.1, ⟨hk.2.2.2.2.2.2.1, ⟨hk.2.2.2.2.2.2.2.1, ⟨hk.2.2.2.2.2.2.2.2.1, hk.2.2.2.2.2.2.2.2.2⟩⟩⟩⟩⟩⟩⟩⟩⟩)), (by (with_reducible repeat (first | apply Kd.R_alloc | apply Kd.R_drewN | apply Kd.R_drew)); exact Kd.R_mono HO199.out (fun _ hk => ⟨hk.1.1, hk.2⟩)), (by (with_reducible repeat (first | apply Kd.R_alloc | apply Kd.R_drewN | apply Kd.R_drew)); exact Kd.R_mono HO202.out (fun _ hk => ⟨hk.1.1, hk.2⟩)), (Bq BK180.out), (Bq BK181.out), (Bq BK182.out), (Bq BK204.out), GW204.out, GE204.out, NB180_204.out, NB204_180.out, NB181_204.out, NB204_181.out, NB182_204.out, NB204_182.out, (W4 HB.out GE180.out GE181.out GE182.out GE204.out)⟩)
              ·skip
               refine box_step ?hg (N := 6) ?hd (cs := #[.slice none 0 0, .slice none 0 0, .slice none 0 0]) (t := 26) ?hr ?_; (case hd => rfl); (case hg => rfl); (case hr => first | (go_simp; done) | (go_simp; rfl))
               intro gb203 hg w34 hbox hb
               have n0_ := Aside0.mk (Kd.N_below (Kd.N_elderB (Nq HO187.out) gb203 (Nat.le_of_eq hg.symm)) hb)
               have n1_ := Aside0.mk (Kd.R_below (Rq HO190.out) hb)
               have n2_ := Aside0.mk (Kd.R_below (Rq HO193.out) hb)
               have n3_ := Aside0.mk (blk_below (g := gb180) (Bq BK180.out) hb)
               have n4_ := Aside0.mk (blk_below (g := gb181) (Bq BK181.out) hb)
               have n5_ := Aside0.mk (blk_below (g := gb182) (Bq BK182.out) hb)
               have n6_ := Aside0.mk (blk_below (g := gb204) (Bq BK204.out) hb)
               have n7_ := Aside0.mk (below_step (W4 HB.out GE180.out GE181.out GE182.out GE204.out) hb)
               have n8_ := Aside0.mk (hbox)
               have n9_ := Aside0.mk ((by rw [hg]; exact (below_size (W4 HB.out GE180.out GE181.out GE182.out GE204.out)) : w.heap.size ≤ gb203))
               have n10_ := Aside0.mk ((by rw [hg]; exact (below_size (W4 HB.out GE180.out GE181.out GE182.out GE204.out)) : w.heap.size ≤ gb203))
               have n11_ := Aside0.mk ((by rw [hg]; exact Nat.ne_of_lt (blk_lt (g := gb180) (Bq BK180.out)) : gb180 ≠ gb203))
               have n12_ := Aside0.mk ((by rw [hg]; exact Nat.ne_of_gt (blk_lt (g := gb180) (Bq BK180.out)) : gb203 ≠ gb180))
               have n13_ := Aside0.mk ((by rw [hg]; exact Nat.ne_of_lt (blk_lt (g := gb181) (Bq BK181.out)) : gb181 ≠ gb203))
               have n14_ := Aside0.mk ((by rw [hg]; exact Nat.ne_of_gt (blk_lt (g := gb181) (Bq BK181.out)) : gb203 ≠ gb181))
               have n15_ := Aside0.mk ((by rw [hg]; exact Nat.ne_of_lt (blk_lt (g := gb182) (Bq BK182.out)) : gb182 ≠ gb203))
               have n16_ := Aside0.mk ((by rw [hg]; exact Nat.ne_of_gt (blk_lt (g := gb182) (Bq BK182.out)) : gb203 ≠ gb182))
               have n17_ := Aside0.mk ((by rw [hg]; exact Nat.ne_of_lt (blk_lt (g := gb204) (Bq BK204.out)) : gb204 ≠ gb203))
               have n18_ := Aside0.mk ((by rw [hg]; exact Nat.ne_of_gt (blk_lt (g := gb204) (Bq BK204.out)) : gb203 ≠ gb204))
               clear HO187
               clear HO190
               clear HO193
               clear BK180
               clear BK181
               clear BK182
               clear BK204
               clear HB
               have HO187 := n0_
               have HO190 := n1_
               have HO193 := n2_
               have BK180 := n3_
               have BK181 := n4_
               have BK182 := n5_
               have BK204 := n6_
               have HB := n7_
               have BK203 := n8_
               have GW203 := n9_
               have GE203 := n10_
               have NB180_203 := n11_
               have NB203_180 := n12_
               have NB181_203 := n13_
               have NB203_181 := n14_
               have NB182_203 := n15_
               have NB203_182 := n16_
               have NB204_203 := n17_
               have NB203_204 := n18_
               clear n0_ n1_ n2_ n3_ n4_ n5_ n6_ n7_ n8_ n9_ n10_ n11_ n12_ n13_ n14_ n15_ n16_ n17_ n18_
               clear hb hbox hg
               refine hK.out _ _ ⟨(blk_cell BK180.out 0).trans rfl, (blk_cell BK180.out 1).trans rfl, (blk_cell BK180.out 2).trans rfl, (blk_cell BK181.out 0).trans rfl, (blk_cell BK181.out 1).trans rfl, (blk_cell BK181.out 2).trans rfl⟩ (fun hHeld => ?_)
               clear hK K
               refine norm_ (a' := ?_) ?_ ?_
               rotate_left
               ·show Act.put _ (some 6) _ = _
                simp only [Act.put, List.setIfInBounds_toArray, List.set_cons_zero, List.set_cons_succ, i64_w, i32_w]
                rfl
               exact norm_ (by first | (simp only [putAll, Act.put, List.setIfInBounds_toArray, List.set_cons_zero, List.set_cons_succ]; done) | (simp only [putAll, Act.put, List.setIfInBounds_toArray, List.set_cons_zero, List.set_cons_succ]; rfl)) (hJ1_4_5 (v186, v189, v192, gb203, gb204) _ ⟨hHeld, (by (with_reducible repeat (first | apply Kd.N_alloc | apply Kd.N_drewN | apply Kd.N_drew)); exact Kd.N_mono HO187.out (fun _ hk => ⟨hk.1.1, ⟨hk.1.2.1, ⟨hk.1.2.2.1, ⟨hk.1.2.2.2.1, ⟨hk.1.2.2.2.2.1, ⟨hk.1.2.2.2.2.2.1, ⟨hk.2, hk.1.2.2.2.2.2.2⟩⟩⟩⟩⟩⟩⟩)), (Rq HO190.out), (Rq HO193.out), (Bq BK180.out), (Bq BK181.out), (Bq BK182.out), (Bq BK203.out), (Bq BK204.out), GW203.out, GE203.out, NB180_203.out, NB203_180.out, NB181_203.out, NB203_181.out, NB182_203.out, NB203_182.out, NB204_203.out, NB203_204.out, GW204.out, GE204.out, NB180_204.out, NB204_180.out, NB181_204.out, NB204_181.out, NB182_204.out, NB204_182.out, (W5 HB.out GE180.out GE181.out GE182.out GE204.out GE203.out)⟩)
            ·skip
             rintro ⟨v186, v189, v192, gb203⟩ w33 ⟨hS_, h0_, h1_, h2_, h3_, h4_, h5_, h6_, h7_, h8_, h9_, h10_, h11_, h12_, h13_, h14_, h15_⟩
             have n0_ : Aside0 (Kd.N (Kd.slice 46 k46) 23 w33 w.heap.size (fun k_ => (w.heap.size ≤ k_) ∧ some k_ ≠ (v189 : Value).ownBlock ∧ some k_ ≠ (v192 : Value).ownBlock ∧ k_ ≠ gb180 ∧ k_ ≠ gb181 ∧ k_ ≠ gb182 ∧ k_ ≠ gb203) v186 t185) := ⟨h0_⟩
             have n1_ : Aside0 (Kd.R k46 46 w33 w.heap.size (fun k_ => (w.heap.size ≤ k_)) v189 t188) := ⟨h1_⟩
             have n2_ : Aside0 (Kd.R k48 48 w33 w.heap.size (fun k_ => (w.heap.size ≤ k_)) v192 t191) := ⟨h2_⟩
             have n3_ : Aside0 (w33.heap[gb180]? = some (.cells #[.slice A0_0 l0_0.length c0_0, .slice A0_1 l0_1.length c0_1, .slice A0_2 l0_2.length c0_2] 26 (0, 0))) := ⟨h3_⟩
             have n4_ : Aside0 (w33.heap[gb181]? = some (.cells #[.slice A1_0 l1_0.length c1_0, .slice A1_1 l1_1.length c1_1, .slice A1_2 l1_2.length c1_2] 26 (0, 0))) := ⟨h4_⟩
             have n5_ : Aside0 (w33.heap[gb182]? = some (.cells #[.slice none 0 0, .slice none 0 0, .slice none 0 0] 26 (0, 0))) := ⟨h5_⟩
             have n6_ : Aside0 (w33.heap[gb203]? = some (.cells #[.slice none 0 0, .slice none 0 0, .slice none 0 0] 26 (0, 0))) := ⟨h6_⟩
             have n7_ : Aside0 (w.heap.size ≤ gb203) := ⟨h7_⟩
             have n8_ : Aside0 (w.heap.size ≤ gb203) := ⟨h8_⟩
             have n9_ : Aside0 (gb180 ≠ gb203) := ⟨h9_⟩
             have n10_ : Aside0 (gb203 ≠ gb180) := ⟨h10_⟩
             have n11_ : Aside0 (gb181 ≠ gb203) := ⟨h11_⟩
             have n12_ : Aside0 (gb203 ≠ gb181) := ⟨h12_⟩
             have n13_ : Aside0 (gb182 ≠ gb203) := ⟨h13_⟩
             have n14_ : Aside0 (gb203 ≠ gb182) := ⟨h14_⟩
             have n15_ : Aside0 (Below w.heap.size w w33) := ⟨h15_⟩
             clear BK180
             clear BK181
             clear BK182
             clear HB
             clear h0_ h1_ h2_ h3_ h4_ h5_ h6_ h7_ h8_ h9_ h10_ h11_ h12_ h13_ h14_ h15_
             have HO187 := n0_
             have HO190 := n1_
             have HO193 := n2_
             have BK180 := n3_
             have BK181 := n4_
             have BK182 := n5_
             have BK203 := n6_
             have GW203 := n7_
             have GE203 := n8_
             have NB180_203 := n9_
             have NB203_180 := n10_
             have NB181_203 := n11_
             have NB203_181 := n12_
             have NB182_203 := n13_
             have NB203_182 := n14_
             have HB := n15_
             clear n0_ n1_ n2_ n3_ n4_ n5_ n6_ n7_ n8_ n9_ n10_ n11_ n12_ n13_ n14_ n15_
             have hHeld : w33.cell? ⟨gb180, 0, none⟩ = some (.slice A0_0 l0_0.length c0_0) ∧ w33.cell? ⟨gb180, 1, none⟩ = some (.slice A0_1 l0_1.length c0_1) ∧ w33.cell? ⟨gb180, 2, none⟩ = some (.slice A0_2 l0_2.length c0_2) ∧ w33.cell? ⟨gb181, 0, none⟩ = some (.slice A1_0 l1_0.length c1_0) ∧ w33.cell? ⟨gb181, 1, none⟩ = some (.slice A1_1 l1_1.length c1_1) ∧ w33.cell? ⟨gb181, 2, none⟩ = some (.slice A1_2 l1_2.length c1_2) := hS_
             refine norm_ (a' := ?_) ?_ ?_
             rotate_left
             ·simp only [putAll, Act.put, List.setIfInBounds_toArray, List.set_cons_zero, List.set_cons_succ]
              rfl
             refine two_ (i := 3) (j := 5) (Ni := some 20) (Nj := some 7) #[true, true, true, true, true, false, false, false] #[true, true, true, false, true, true, false, false] rfl rfl rfl rfl (two_of HT_.out (by kernel_rfl)) (by decide) (by decide) (fun K hK => ?_) (fun K hK => ?_)
             ·skip
              refine goes_ Tryd.func12 (by kernel_rfl) rfl #[.agg #[.slice A1_0 l1_0.length c1_0, .slice A1_1 l1_1.length c1_1, .slice A1_2 l1_2.length c1_2]] (by rfl) rfl rfl (by (try simp only [List.map_toArray, List.map_cons, List.map_nil]); first | done | rfl | (simp only [List.length_drop, List.length_take]; rfl) | (simp; done)) ?_
              with_reducible refine (depotref00_CopyRequest.calls kj2 _ _ l1_0 _ _ l1_1 _ _ l1_2 t194 t197 t200 _ ?side1 ?side2 ?side3 ?side4 ?side5 ?side6 A26.out).mono ?_
              (case side1 => exact Cq HR1_0.out HB.out)
              (case side2 => exact HC1_0.out)
              (case side3 => exact Cq HR1_1.out HB.out)
              (case side4 => exact HC1_1.out)
              (case side5 => exact Cq HR1_2.out HB.out)
              (case side6 => exact HC1_2.out)
              rintro e w34 ⟨v195, v198, v201, rfl, ho0, ho1, ho2, hb⟩
              refine ⟨_, rfl, ?_⟩
              have n0_ := Aside0.mk (Kd.N_mono (Kd.N_told (Kd.N_told (Kd.N_told (Kd.N_old (Nq HO187.out) hb) (by first | exact Kd.N_base ho0 | exact Kd.S_base ho0)) (Kd.R_base ho1)) (Kd.R_base ho2)) (fun _ h_ => h_.1))
              have n1_ := Aside0.mk (Kd.R_elder' (Rq HO190.out) (Kd.R_base ho1) hb)
              have n2_ := Aside0.mk (Kd.R_elder' (Rq HO193.out) (Kd.R_base ho2) hb)
              have n3_ := Aside0.mk (Kd.N_lower (Kd.N_mono (ok' := fun k_ => (w.heap.size ≤ k_) ∧ some k_ ≠ (v198 : Value).ownBlock ∧ some k_ ≠ (v201 : Value).ownBlock ∧ some k_ ≠ (v186 : Value).ownBlock ∧ some k_ ≠ (v189 : Value).ownBlock ∧ some k_ ≠ (v192 : Value).ownBlock ∧ k_ ≠ gb180 ∧ k_ ≠ gb181 ∧ k_ ≠ gb182 ∧ k_ ≠ gb203) (Kd.S_N (Kd.S_bound (Kd.S_apart' ho0 (Kd.R_typed ho2) (by decide)))) (fun k_ hk_ => ⟨(Nat.le_trans (below_size (W4 HB.out GE180.out GE181.out GE182.out GE203.out)) hk_.2.1), hk_.1.1, hk_.1.2, (Kd.fresh' (Kd.N_lt (Nq HO187.out)) k_ hk_.2.1), (Kd.fresh' (Kd.R_lt (Rq HO190.out)) k_ hk_.2.1), (Kd.fresh' (Kd.R_lt (Rq HO193.out)) k_ hk_.2.1), (Kd.freshB (g := gb180) (Bq BK180.out) k_ hk_.2.1), (Kd.freshB (g := gb181) (Bq BK181.out) k_ hk_.2.1), (Kd.freshB (g := gb182) (Bq BK182.out) k_ hk_.2.1), (Kd.freshB (g := gb203) (Bq BK203.out) k_ hk_.2.1)⟩)) (below_size (W4 HB.out GE180.out GE181.out GE182.out GE203.out)))
              have n4_ := Aside0.mk (Kd.R_lower (Kd.R_new' (Kd.R_newM (M := fun k_ => (w.heap.size ≤ k_)) ho1 (below_size (W4 HB.out GE180.out GE181.out GE182.out GE203.out)) (fun k_ h_ => h_)) (Kd.R_lt (Rq HO190.out))) (below_size (W4 HB.out GE180.out GE181.out GE182.out GE203.out)))
              have n5_ := Aside0.mk (Kd.R_lower (Kd.R_new' (Kd.R_newM (M := fun k_ => (w.heap.size ≤ k_)) ho2 (below_size (W4 HB.out GE180.out GE181.out GE182.out GE203.out)) (fun k_ h_ => h_)) (Kd.R_lt (Rq HO193.out))) (below_size (W4 HB.out GE180.out GE181.out GE182.out GE203.out)))
              have n6_ := Aside0.mk (blk_below (g := gb180) (Bq BK180.out) hb)
              have n7_ := Aside0.mk (blk_below (g := gb181) (Bq BK181.out) hb)
              have n8_ := Aside0.mk (blk_below (g := gb182) (Bq BK182.out) hb)
              have n9_ := Aside0.mk (blk_below (g := gb203) (Bq BK203.out) hb)
              have n10_ := Aside0.mk (below_step (W4 HB.out GE180.out GE181.out GE182.out GE203.out) hb)
              clear HO187
              clear HO190
              clear HO193
              clear BK180
              clear BK181
              clear BK182
              clear BK203
              clear HB
              have HO187 := n0_
              have HO190 := n1_
              have HO193 := n2_
              have HO196 := n3_
              have HO199 := n4_
              have HO202 := n5_
              have BK180 := n6_
              have BK181 := n7_
              have BK182 := n8_
              have BK203 := n9_
              have HB := n10_
              clear n0_ n1_ n2_ n3_ n4_ n5_ n6_ n7_ n8_ n9_ n10_
              (try clear hb)
              (try clear hb2)
              (try clear hk)
              (try clear hi)
              (try clear ho0)
              (try clear ho1)
              (try clear ho2)
              refine hK.out _ _ ⟨(blk_cell BK180.out 0).trans rfl, (blk_cell BK180.out 1).trans rfl, (blk_cell BK180.out 2).trans rfl, (blk_cell BK181.out 0).trans rfl, (blk_cell BK181.out 1).trans rfl, (blk_cell BK181.out 2).trans rfl⟩ (fun hHeld => ?_)
              clear hK K
              refine norm_ (a' := ?_) ?_ ?_
              rotate_left
              ·show Act.put _ (some 20) _ = _
               simp only [Act.put, List.setIfInBounds_toArray, List.set_cons_zero, List.set_cons_succ, i64_w, i32_w]
               rfl
              exact norm_ (by first | (simp only [putAll, Act.put, List.setIfInBounds_toArray, List.set_cons_zero, List.set_cons_succ]; done) | (simp only [putAll, Act.put, List.setIfInBounds_toArray, List.set_cons_zero, List.set_cons_succ]; rfl)) (hJ1_3_4 (v186, v189, v192, v195, v198, v201, gb203) _ ⟨hHeld, (by (with_reducible repeat (first | apply Kd.N_alloc | apply Kd.N_drewN | apply Kd.N_drew)); exact Kd.N_mono HO187.out (fun _ hk => ⟨hk.1.1.1.1, ⟨hk.1.1.1.2.1, ⟨hk.1.1.1.2.2.1, ⟨hk.1.1.2, ⟨hk.1.2, ⟨hk.2, ⟨hk.1.1.1.2.2.2.1, ⟨hk.1.1.1.2.2.2.2.1, ⟨hk.1.1.1.2.2.2.2.2.1, hk.1.1.1.2.2.2.2.2.2⟩⟩⟩⟩⟩⟩⟩⟩⟩)), (Rq HO190.out), (Rq HO193.out), (by (with_reducible repeat (first | apply Kd.N_alloc | apply Kd.N_drewN | apply Kd.N_drew)); exact Kd.N_mono HO196.out (fun _ hk => ⟨hk.1, ⟨hk.2.2.2.1, ⟨hk.2.2.2.2.1, ⟨hk.2.2.2.2.2.1, ⟨hk.2.1, ⟨hk.2.2.1, ⟨hk.2.2.2.2.2.2.1, ⟨hk.2.2.2.2.2.2.2.1, ⟨hk.2.2.2.2.2.2.2.2.1, hk.2.2.2.2.2.2.2.2.2⟩⟩⟩⟩⟩⟩⟩⟩⟩)), (by (with_reducible repeat (first | apply Kd.R_alloc | apply Kd.R_drewN | apply Kd.R_drew)); exact Kd.R_mono HO199.out (fun _ hk => ⟨hk.1.1, hk.2⟩)), (by (with_reducible repeat (first | apply Kd.R_alloc | apply Kd.R_drewN | apply Kd.R_drew)); exact Kd.R_mono HO202.out (fun _ hk => ⟨hk.1.1, hk.2⟩)), (Bq BK180.out), (Bq BK181.out), (Bq BK182.out), (Bq BK203.out), GW203.out, GE203.out, NB180_203.out, NB203_180.out, NB181_203.out, NB203_181.out, NB182_203.out, NB203_182.out, (W4 HB.out GE180.out GE181.out GE182.out GE203.out)⟩)
             ·skip
              refine box_step ?hg (N := 7) ?hd (cs := #[.slice none 0 0, .slice none 0 0, .slice none 0 0]) (t := 26) ?hr ?_; (case hd => rfl); (case hg => rfl); (case hr => first | (go_simp; done) | (go_simp; rfl))
              intro gb204 hg w34 hbox hb
              have n0_ := Aside0.mk (Kd.N_below (Kd.N_elderB (Nq HO187.out) gb204 (Nat.le_of_eq hg.symm)) hb)
              have n1_ := Aside0.mk (Kd.R_below (Rq HO190.out) hb)
              have n2_ := Aside0.mk (Kd.R_below (Rq HO193.out) hb)
              have n3_ := Aside0.mk (blk_below (g := gb180) (Bq BK180.out) hb)
              have n4_ := Aside0.mk (blk_below (g := gb181) (Bq BK181.out) hb)
              have n5_ := Aside0.mk (blk_below (g := gb182) (Bq BK182.out) hb)
              have n6_ := Aside0.mk (blk_below (g := gb203) (Bq BK203.out) hb)
              have n7_ := Aside0.mk (below_step (W4 HB.out GE180.out GE181.out GE182.out GE203.out) hb)
              have n8_ := Aside0.mk (hbox)
              have n9_ := Aside0.mk ((by rw [hg]; exact (below_size (W4 HB.out GE180.out GE181.out GE182.out GE203.out)) : w.heap.size ≤ gb204))
              have n10_ := Aside0.mk ((by rw [hg]; exact (below_size (W4 HB.out GE180.out GE181.out GE182.out GE203.out)) : w.heap.size ≤ gb204))
              have n11_ := Aside0.mk ((by rw [hg]; exact Nat.ne_of_lt (blk_lt (g := gb180) (Bq BK180.out)) : gb180 ≠ gb204))
              have n12_ := Aside0.mk ((by rw [hg]; exact Nat.ne_of_gt (blk_lt (g := gb180) (Bq BK180.out)) : gb204 ≠ gb180))
              have n13_ := Aside0.mk ((by rw [hg]; exact Nat.ne_of_lt (blk_lt (g := gb181) (Bq BK181.out)) : gb181 ≠ gb204))
              have n14_ := Aside0.mk ((by rw [hg]; exact Nat.ne_of_gt (blk_lt (g := gb181) (Bq BK181.out)) : gb204 ≠ gb181))
              have n15_ := Aside0.mk ((by rw [hg]; exact Nat.ne_of_lt (blk_lt (g := gb182) (Bq BK182.out)) : gb182 ≠ gb204))
              have n16_ := Aside0.mk ((by rw [hg]; exact Nat.ne_of_gt (blk_lt (g := gb182) (Bq BK182.out)) : gb204 ≠ gb182))
              have n17_ := Aside0.mk ((by rw [hg]; exact Nat.ne_of_lt (blk_lt (g := gb203) (Bq BK203.out)) : gb203 ≠ gb204))
              have n18_ := Aside0.mk ((by rw [hg]; exact Nat.ne_of_gt (blk_lt (g := gb203) (Bq BK203.out)) : gb204 ≠ gb203))
              clear HO187
              clear HO190
              clear HO193
              clear BK180
              clear BK181
              clear BK182
              clear BK203
              clear HB
              have HO187 := n0_
              have HO190 := n1_
              have HO193 := n2_
              have BK180 := n3_
              have BK181 := n4_
              have BK182 := n5_
              have BK203 := n6_
              have HB := n7_
              have BK204 := n8_
              have GW204 := n9_
              have GE204 := n10_
              have NB180_204 := n11_
              have NB204_180 := n12_
              have NB181_204 := n13_
              have NB204_181 := n14_
              have NB182_204 := n15_
              have NB204_182 := n16_
              have NB203_204 := n17_
              have NB204_203 := n18_
              clear n0_ n1_ n2_ n3_ n4_ n5_ n6_ n7_ n8_ n9_ n10_ n11_ n12_ n13_ n14_ n15_ n16_ n17_ n18_
              clear hb hbox hg
              refine hK.out _ _ ⟨(blk_cell BK180.out 0).trans rfl, (blk_cell BK180.out 1).trans rfl, (blk_cell BK180.out 2).trans rfl, (blk_cell BK181.out 0).trans rfl, (blk_cell BK181.out 1).trans rfl, (blk_cell BK181.out 2).trans rfl⟩ (fun hHeld => ?_)
              clear hK K
              refine norm_ (a' := ?_) ?_ ?_
              rotate_left
              ·show Act.put _ (some 7) _ = _
               simp only [Act.put, List.setIfInBounds_toArray, List.set_cons_zero, List.set_cons_succ, i64_w, i32_w]
               rfl
              exact norm_ (by first | (simp only [putAll, Act.put, List.setIfInBounds_toArray, List.set_cons_zero, List.set_cons_succ]; done) | (simp only [putAll, Act.put, List.setIfInBounds_toArray, List.set_cons_zero, List.set_cons_succ]; rfl)) (hJ1_4_5 (v186, v189, v192, gb203, gb204) _ ⟨hHeld, (by (with_reducible repeat (first | apply Kd.N_alloc | apply Kd.N_drewN | apply Kd.N_drew)); exact Kd.N_mono HO187.out (fun _ hk => ⟨hk.1.1, ⟨hk.1.2.1, ⟨hk.1.2.2.1, ⟨hk.1.2.2.2.1, ⟨hk.1.2.2.2.2.1, ⟨hk.1.2.2.2.2.2.1, ⟨hk.1.2.2.2.2.2.2, hk.2⟩⟩⟩⟩⟩⟩⟩)), (Rq HO190.out), (Rq HO193.out), (Bq BK180.out), (Bq BK181.out), (Bq BK182.out), (Bq BK203.out), (Bq BK204.out), GW203.out, GE203.out, NB180_203.out, NB203_180.out, NB181_203.out, NB203_181.out, NB182_203.out, NB203_182.out, NB204_203.out, NB203_204.out, GW204.out, GE204.out, NB180_204.out, NB204_180.out, NB181_204.out, NB204_181.out, NB182_204.out, NB204_182.out, (W5 HB.out GE180.out GE181.out GE182.out GE203.out GE204.out)⟩)
           ·skip
            rintro ⟨v186, v189, v192, v195, v198, v201⟩ w33 ⟨hS_, h0_, h1_, h2_, h3_, h4_, h5_, h6_, h7_, h8_, h9_⟩
            have n0_ : Aside0 (Kd.N (Kd.slice 46 k46) 23 w33 w.heap.size (fun k_ => (w.heap.size ≤ k_) ∧ some k_ ≠ (v189 : Value).ownBlock ∧ some k_ ≠ (v192 : Value).ownBlock ∧ some k_ ≠ (v195 : Value).ownBlock ∧ some k_ ≠ (v198 : Value).ownBlock ∧ some k_ ≠ (v201 : Value).ownBlock ∧ k_ ≠ gb180 ∧ k_ ≠ gb181 ∧ k_ ≠ gb182) v186 t185) := ⟨h0_⟩
            have n1_ : Aside0 (Kd.R k46 46 w33 w.heap.size (fun k_ => (w.heap.size ≤ k_) ∧ some k_ ≠ (v198 : Value).ownBlock) v189 t188) := ⟨h1_⟩
            have n2_ : Aside0 (Kd.R k48 48 w33 w.heap.size (fun k_ => (w.heap.size ≤ k_) ∧ some k_ ≠ (v201 : Value).ownBlock) v192 t191) := ⟨h2_⟩
            have n3_ : Aside0 (Kd.N (Kd.slice 46 k46) 23 w33 w.heap.size (fun k_ => (w.heap.size ≤ k_) ∧ some k_ ≠ (v186 : Value).ownBlock ∧ some k_ ≠ (v189 : Value).ownBlock ∧ some k_ ≠ (v192 : Value).ownBlock ∧ some k_ ≠ (v198 : Value).ownBlock ∧ some k_ ≠ (v201 : Value).ownBlock ∧ k_ ≠ gb180 ∧ k_ ≠ gb181 ∧ k_ ≠ gb182) v195 t194) := ⟨h3_⟩
            have n4_ : Aside0 (Kd.R k46 46 w33 w.heap.size (fun k_ => (w.heap.size ≤ k_) ∧ some k_ ≠ (v189 : Value).ownBlock) v198 t197) := ⟨h4_⟩
            have n5_ : Aside0 (Kd.R k48 48 w33 w.heap.size (fun k_ => (w.heap.size ≤ k_) ∧ some k_ ≠ (v192 : Value).ownBlock) v201 t200) := ⟨h5_⟩
            have n6_ : Aside0 (w33.heap[gb180]? = some (.cells #[.slice A0_0 l0_0.length c0_0, .slice A0_1 l0_1.length c0_1, .slice A0_2 l0_2.length c0_2] 26 (0, 0))) := ⟨h6_⟩
            have n7_ : Aside0 (w33.heap[gb181]? = some (.cells #[.slice A1_0 l1_0.length c1_0, .slice A1_1 l1_1.length c1_1, .slice A1_2 l1_2.length c1_2] 26 (0, 0))) := ⟨h7_⟩
            have n8_ : Aside0 (w33.heap[gb182]? = some (.cells #[.slice none 0 0, .slice none 0 0, .slice none 0 0] 26 (0, 0))) := ⟨h8_⟩
            have n9_ : Aside0 (Below w.heap.size w w33) := ⟨h9_⟩
            clear BK180
            clear BK181
            clear BK182
            clear HB
            clear h0_ h1_ h2_ h3_ h4_ h5_ h6_ h7_ h8_ h9_
            have HO187 := n0_
            have HO190 := n1_
            have HO193 := n2_
            have HO196 := n3_
            have HO199 := n4_
            have HO202 := n5_
            have BK180 := n6_
            have BK181 := n7_
            have BK182 := n8_
            have HB := n9_
            clear n0_ n1_ n2_ n3_ n4_ n5_ n6_ n7_ n8_ n9_
            have hHeld : w33.cell? ⟨gb180, 0, none⟩ = some (.slice A0_0 l0_0.length c0_0) ∧ w33.cell? ⟨gb180, 1, none⟩ = some (.slice A0_1 l0_1.length c0_1) ∧ w33.cell? ⟨gb180, 2, none⟩ = some (.slice A0_2 l0_2.length c0_2) ∧ w33.cell? ⟨gb181, 0, none⟩ = some (.slice A1_0 l1_0.length c1_0) ∧ w33.cell? ⟨gb181, 1, none⟩ = some (.slice A1_1 l1_1.length c1_1) ∧ w33.cell? ⟨gb181, 2, none⟩ = some (.slice A1_2 l1_2.length c1_2) := hS_
            refine norm_ (a' := ?_) ?_ ?_
            rotate_left
            ·simp only [putAll, Act.put, List.setIfInBounds_toArray, List.set_cons_zero, List.set_cons_succ]
             rfl
            refine two_ (i := 4) (j := 5) (Ni := some 6) (Nj := some 7) #[true, true, true, true, true, false, false, false] #[true, true, true, true, false, true, false, false] rfl rfl rfl rfl (two_of HT_.out (by kernel_rfl)) (by decide) (by decide) (fun K hK => ?_) (fun K hK => ?_)
            ·skip
             refine box_step ?hg (N := 6) ?hd (cs := #[.slice none 0 0, .slice none 0 0, .slice none 0 0]) (t := 26) ?hr ?_; (case hd => rfl); (case hg => rfl); (case hr => first | (go_simp; done) | (go_simp; rfl))
             intro gb203 hg w34 hbox hb
             have n0_ := Aside0.mk (Kd.N_below (Kd.N_elderB (Nq HO187.out) gb203 (Nat.le_of_eq hg.symm)) hb)
             have n1_ := Aside0.mk (Kd.R_below (Rq HO190.out) hb)
             have n2_ := Aside0.mk (Kd.R_below (Rq HO193.out) hb)
             have n3_ := Aside0.mk (Kd.N_below (Kd.N_elderB (Nq HO196.out) gb203 (Nat.le_of_eq hg.symm)) hb)
             have n4_ := Aside0.mk (Kd.R_below (Rq HO199.out) hb)
             have n5_ := Aside0.mk (Kd.R_below (Rq HO202.out) hb)
             have n6_ := Aside0.mk (blk_below (g := gb180) (Bq BK180.out) hb)
             have n7_ := Aside0.mk (blk_below (g := gb181) (Bq BK181.out) hb)
             have n8_ := Aside0.mk (blk_below (g := gb182) (Bq BK182.out) hb)
             have n9_ := Aside0.mk (below_step (W3 HB.out GE180.out GE181.out GE182.out) hb)
             have n10_ := Aside0.mk (hbox)
             have n11_ := Aside0.mk ((by rw [hg]; exact (below_size (W3 HB.out GE180.out GE181.out GE182.out)) : w.heap.size ≤ gb203))
             have n12_ := Aside0.mk ((by rw [hg]; exact (below_size (W3 HB.out GE180.out GE181.out GE182.out)) : w.heap.size ≤ gb203))
             have n13_ := Aside0.mk ((by rw [hg]; exact Nat.ne_of_lt (blk_lt (g := gb180) (Bq BK180.out)) : gb180 ≠ gb203))
             have n14_ := Aside0.mk ((by rw [hg]; exact Nat.ne_of_gt (blk_lt (g := gb180) (Bq BK180.out)) : gb203 ≠ gb180))
             have n15_ := Aside0.mk ((by rw [hg]; exact Nat.ne_of_lt (blk_lt (g := gb181) (Bq BK181.out)) : gb181 ≠ gb203))
             have n16_ := Aside0.mk ((by rw [hg]; exact Nat.ne_of_gt (blk_lt (g := gb181) (Bq BK181.out)) : gb203 ≠ gb181))
             have n17_ := Aside0.mk ((by rw [hg]; exact Nat.ne_of_lt (blk_lt (g := gb182) (Bq BK182.out)) : gb182 ≠ gb203))
             have n18_ := Aside0.mk ((by rw [hg]; exact Nat.ne_of_gt (blk_lt (g := gb182) (Bq BK182.out)) : gb203 ≠ gb182))
             clear HO187
             clear HO190
             clear HO193
             clear HO196
             clear HO199
             clear HO202
             clear BK180
             clear BK181
             clear BK182
             clear HB
             have HO187 := n0_
             have HO190 := n1_
             have HO193 := n2_
             have HO196 := n3_
             have HO199 := n4_
             have HO202 := n5_
             have BK180 := n6_
             have BK181 := n7_
             have BK182 := n8_
             have HB := n9_
             have BK203 := n10_
             have GW203 := n11_
             have GE203 := n12_
             have NB180_203 := n13_
             have NB203_180 := n14_
             have NB181_203 := n15_
             have NB203_181 := n16_
             have NB182_203 := n17_
             have NB203_182 := n18_
             clear n0_ n1_ n2_ n3_ n4_ n5_ n6_ n7_ n8_ n9_ n10_ n11_ n12_ n13_ n14_ n15_ n16_ n17_ n18_
             clear hb hbox hg
             refine hK.out _ _ ⟨(blk_cell BK180.out 0).trans rfl, (blk_cell BK180.out 1).trans rfl, (blk_cell BK180.out 2).trans rfl, (blk_cell BK181.out 0).trans rfl, (blk_cell BK181.out 1).trans rfl, (blk_cell BK181.out 2).trans rfl⟩ (fun hHeld => ?_)
             clear hK K
             refine norm_ (a' := ?_) ?_ ?_
             rotate_left
             ·show Act.put _ (some 6) _ = _
              simp only [Act.put, List.setIfInBounds_toArray, List.set_cons_zero, List.set_cons_succ, i64_w, i32_w]
              rfl
             exact norm_ (by first | (simp only [putAll, Act.put, List.setIfInBounds_toArray, List.set_cons_zero, List.set_cons_succ]; done) | (simp only [putAll, Act.put, List.setIfInBounds_toArray, List.set_cons_zero, List.set_cons_succ]; rfl)) (hJ1_3_4 (v186, v189, v192, v195, v198, v201, gb203) _ ⟨hHeld, (by (with_reducible repeat (first | apply Kd.N_alloc | apply Kd.N_drewN | apply Kd.N_drew)); exact Kd.N_mono HO187.out (fun _ hk => ⟨hk.1.1, ⟨hk.1.2.1, ⟨hk.1.2.2.1, ⟨hk.1.2.2.2.1, ⟨hk.1.2.2.2.2.1, ⟨hk.1.2.2.2.2.2.1, ⟨hk.1.2.2.2.2.2.2.1, ⟨hk.1.2.2.2.2.2.2.2.1, ⟨hk.1.2.2.2.2.2.2.2.2, hk.2⟩⟩⟩⟩⟩⟩⟩⟩⟩)), (Rq HO190.out), (Rq HO193.out), (by (with_reducible repeat (first | apply Kd.N_alloc | apply Kd.N_drewN | apply Kd.N_drew)); exact Kd.N_mono HO196.out (fun _ hk => ⟨hk.1.1, ⟨hk.1.2.1, ⟨hk.1.2.2.1, ⟨hk.1.2.2.2.1, ⟨hk.1.2.2.2.2.1, ⟨hk.1.2.2.2.2.2.1, ⟨hk.1.2.2.2.2.2.2.1, ⟨hk.1.2.2.2.2.2.2.2.1, ⟨hk.1.2.2.2.2.2.2.2.2, hk.2⟩⟩⟩⟩⟩⟩⟩⟩⟩)), (Rq HO199.out), (Rq HO202.out), (Bq BK180.out), (Bq BK181.out), (Bq BK182.out), (Bq BK203.out), GW203.out, GE203.out, NB180_203.out, NB203_180.out, NB181_203.out, NB203_181.out, NB182_203.out, NB203_182.out, (W4 HB.out GE180.out GE181.out GE182.out GE203.out)⟩)
            ·skip
             refine box_step ?hg (N := 7) ?hd (cs := #[.slice none 0 0, .slice none 0 0, .slice none 0 0]) (t := 26) ?hr ?_; (case hd => rfl); (case hg => rfl); (case hr => first | (go_simp; done) | (go_simp; rfl))
             intro gb204 hg w34 hbox hb
             have n0_ := Aside0.mk (Kd.N_below (Kd.N_elderB (Nq HO187.out) gb204 (Nat.le_of_eq hg.symm)) hb)
             have n1_ := Aside0.mk (Kd.R_below (Rq HO190.out) hb)
             have n2_ := Aside0.mk (Kd.R_below (Rq HO193.out) hb)
             have n3_ := Aside0.mk (Kd.N_below (Kd.N_elderB (Nq HO196.out) gb204 (Nat.le_of_eq hg.symm)) hb)
             have n4_ := Aside0.mk (Kd.R_below (Rq HO199.out) hb)
             have n5_ := Aside0.mk (Kd.R_below (Rq HO202.out) hb)
             have n6_ := Aside0.mk (blk_below (g := gb180) (Bq BK180.out) hb)
             have n7_ := Aside0.mk (blk_below (g := gb181) (Bq BK181.out) hb)
             have n8_ := Aside0.mk (blk_below (g := gb182) (Bq BK182.out) hb)
             have n9_ := Aside0.mk (below_step (W3 HB.out GE180.out GE181.out GE182.out) hb)
             have n10_ := Aside0.mk (hbox)
             have n11_ := Aside0.mk ((by rw [hg]; exact (below_size (W3 HB.out GE180.out GE181.out GE182.out)) : w.heap.size ≤ gb204))
             have n12_ := Aside0.mk ((by rw [hg]; exact (below_size (W3 HB.out GE180.out GE181.out GE182.out)) : w.heap.size ≤ gb204))
             have n13_ := Aside0.mk ((by rw [hg]; exact Nat.ne_of_lt (blk_lt (g := gb180) (Bq BK180.out)) : gb180 ≠ gb204))
             have n14_ := Aside0.mk ((by rw [hg]; exact Nat.ne_of_gt (blk_lt (g := gb180) (Bq BK180.out)) : gb204 ≠ gb180))
             have n15_ := Aside0.mk ((by rw [hg]; exact Nat.ne_of_lt (blk_lt (g := gb181) (Bq BK181.out)) : gb181 ≠ gb204))
             have n16_ := Aside0.mk ((by rw [hg]; exact Nat.ne_of_gt (blk_lt (g := gb181) (Bq BK181.out)) : gb204 ≠ gb181))
             have n17_ := Aside0.mk ((by rw [hg]; exact Nat.ne_of_lt (blk_lt (g := gb182) (Bq BK182.out)) : gb182 ≠ gb204))
             have n18_ := Aside0.mk ((by rw [hg]; exact Nat.ne_of_gt (blk_lt (g := gb182) (Bq BK182.out)) : gb204 ≠ gb182))
             clear HO187
             clear HO190
             clear HO193
             clear HO196
             clear HO199
             clear HO202
             clear BK180
             clear BK181
             clear BK182
             clear HB
             have HO187 := n0_
             have HO190 := n1_
             have HO193 := n2_
             have HO196 := n3_
             have HO199 := n4_
             have HO202 := n5_
             have BK180 := n6_
             have BK181 := n7_
             have BK182 := n8_
             have HB := n9_
             have BK204 := n10_
             have GW204 := n11_
             have GE204 := n12_
             have NB180_204 := n13_
             have NB204_180 := n14_
             have NB181_204 := n15_
             have NB204_181 := n16_
             have NB182_204 := n17_
             have NB204_182 := n18_
             clear n0_ n1_ n2_ n3_ n4_ n5_ n6_ n7_ n8_ n9_ n10_ n11_ n12_ n13_ n14_ n15_ n16_ n17_ n18_
             clear hb hbox hg
             refine hK.out _ _ ⟨(blk_cell BK180.out 0).trans rfl, (blk_cell BK180.out 1).trans rfl, (blk_cell BK180.out 2).trans rfl, (blk_cell BK181.out 0).trans rfl, (blk_cell BK181.out 1).trans rfl, (blk_cell BK181.out 2).trans rfl⟩ (fun hHeld => ?_)
             clear hK K
             refine norm_ (a' := ?_) ?_ ?_
             rotate_left
             ·show Act.put _ (some 7) _ = _
              simp only [Act.put, List.setIfInBounds_toArray, List.set_cons_zero, List.set_cons_succ, i64_w, i32_w]
              rfl
             exact norm_ (by first | (simp only [putAll, Act.put, List.setIfInBounds_toArray, List.set_cons_zero, List.set_cons_succ]; done) | (simp only [putAll, Act.put, List.setIfInBounds_toArray, List.set_cons_zero, List.set_cons_succ]; rfl)) (hJ1_3_5 (v186, v189, v192, v195, v198, v201, gb204) _ ⟨hHeld, (by (with_reducible repeat (first | apply Kd.N_alloc | apply Kd.N_drewN | apply Kd.N_drew)); exact Kd.N_mono HO187.out (fun _ hk => ⟨hk.1.1, ⟨hk.1.2.1, ⟨hk.1.2.2.1, ⟨hk.1.2.2.2.1, ⟨hk.1.2.2.2.2.1, ⟨hk.1.2.2.2.2.2.1, ⟨hk.1.2.2.2.2.2.2.1, ⟨hk.1.2.2.2.2.2.2.2.1, ⟨hk.1.2.2.2.2.2.2.2.2, hk.2⟩⟩⟩⟩⟩⟩⟩⟩⟩)), (Rq HO190.out), (Rq HO193.out), (by (with_reducible repeat (first | apply Kd.N_alloc | apply Kd.N_drewN | apply Kd.N_drew)); exact Kd.N_mono HO196.out (fun _ hk => ⟨hk.1.1, ⟨hk.1.2.1, ⟨hk.1.2.2.1, ⟨hk.1.2.2.2.1, ⟨hk.1.2.2.2.2.1, ⟨hk.1.2.2.2.2.2.1, ⟨hk.1.2.2.2.2.2.2.1, ⟨hk.1.2.2.2.2.2.2.2.1, ⟨hk.1.2.2.2.2.2.2.2.2, hk.2⟩⟩⟩⟩⟩⟩⟩⟩⟩)), (Rq HO199.out), (Rq HO202.out), (Bq BK180.out), (Bq BK181.out), (Bq BK182.out), (Bq BK204.out), GW204.out, GE204.out, NB180_204.out, NB204_180.out, NB181_204.out, NB204_181.out, NB182_204.out, NB204_182.out, (W4 HB.out GE180.out GE181.out GE182.out GE204.out)⟩)
          ·skip
           rintro ⟨v186, v189, v192, gb203, gb204⟩ w34 ⟨hS_, h0_, h1_, h2_, h3_, h4_, h5_, h6_, h7_, h8_, h9_, h10_, h11_, h12_, h13_, h14_, h15_, h16_, h17_, h18_, h19_, h20_, h21_, h22_, h23_, h24_, h25_, h26_⟩
           have n0_ : Aside0 (Kd.N (Kd.slice 46 k46) 23 w34 w.heap.size (fun k_ => (w.heap.size ≤ k_) ∧ some k_ ≠ (v189 : Value).ownBlock ∧ some k_ ≠ (v192 : Value).ownBlock ∧ k_ ≠ gb180 ∧ k_ ≠ gb181 ∧ k_ ≠ gb182 ∧ k_ ≠ gb203 ∧ k_ ≠ gb204) v186 t185) := ⟨h0_⟩
           have n1_ : Aside0 (Kd.R k46 46 w34 w.heap.size (fun k_ => (w.heap.size ≤ k_)) v189 t188) := ⟨h1_⟩
           have n2_ : Aside0 (Kd.R k48 48 w34 w.heap.size (fun k_ => (w.heap.size ≤ k_)) v192 t191) := ⟨h2_⟩
           have n3_ : Aside0 (w34.heap[gb180]? = some (.cells #[.slice A0_0 l0_0.length c0_0, .slice A0_1 l0_1.length c0_1, .slice A0_2 l0_2.length c0_2] 26 (0, 0))) := ⟨h3_⟩
           have n4_ : Aside0 (w34.heap[gb181]? = some (.cells #[.slice A1_0 l1_0.length c1_0, .slice A1_1 l1_1.length c1_1, .slice A1_2 l1_2.length c1_2] 26 (0, 0))) := ⟨h4_⟩
           have n5_ : Aside0 (w34.heap[gb182]? = some (.cells #[.slice none 0 0, .slice none 0 0, .slice none 0 0] 26 (0, 0))) := ⟨h5_⟩
           have n6_ : Aside0 (w34.heap[gb203]? = some (.cells #[.slice none 0 0, .slice none 0 0, .slice none 0 0] 26 (0, 0))) := ⟨h6_⟩
           have n7_ : Aside0 (w34.heap[gb204]? = some (.cells #[.slice none 0 0, .slice none 0 0, .slice none 0 0] 26 (0, 0))) := ⟨h7_⟩
           have n8_ : Aside0 (w.heap.size ≤ gb203) := ⟨h8_⟩
           have n9_ : Aside0 (w.heap.size ≤ gb203) := ⟨h9_⟩
           have n10_ : Aside0 (gb180 ≠ gb203) := ⟨h10_⟩
           have n11_ : Aside0 (gb203 ≠ gb180) := ⟨h11_⟩
           have n12_ : Aside0 (gb181 ≠ gb203) := ⟨h12_⟩
           have n13_ : Aside0 (gb203 ≠ gb181) := ⟨h13_⟩
           have n14_ : Aside0 (gb182 ≠ gb203) := ⟨h14_⟩
           have n15_ : Aside0 (gb203 ≠ gb182) := ⟨h15_⟩
           have n16_ : Aside0 (gb204 ≠ gb203) := ⟨h16_⟩
           have n17_ : Aside0 (gb203 ≠ gb204) := ⟨h17_⟩
           have n18_ : Aside0 (w.heap.size ≤ gb204) := ⟨h18_⟩
           have n19_ : Aside0 (w.heap.size ≤ gb204) := ⟨h19_⟩
           have n20_ : Aside0 (gb180 ≠ gb204) := ⟨h20_⟩
           have n21_ : Aside0 (gb204 ≠ gb180) := ⟨h21_⟩
           have n22_ : Aside0 (gb181 ≠ gb204) := ⟨h22_⟩
           have n23_ : Aside0 (gb204 ≠ gb181) := ⟨h23_⟩
           have n24_ : Aside0 (gb182 ≠ gb204) := ⟨h24_⟩
           have n25_ : Aside0 (gb204 ≠ gb182) := ⟨h25_⟩
           have n26_ : Aside0 (Below w.heap.size w w34) := ⟨h26_⟩
           clear BK180
           clear BK181
           clear BK182
           clear HB
           clear h0_ h1_ h2_ h3_ h4_ h5_ h6_ h7_ h8_ h9_ h10_ h11_ h12_ h13_ h14_ h15_ h16_ h17_ h18_ h19_ h20_ h21_ h22_ h23_ h24_ h25_ h26_
           have HO187 := n0_
           have HO190 := n1_
           have HO193 := n2_
           have BK180 := n3_
           have BK181 := n4_
           have BK182 := n5_
           have BK203 := n6_
           have BK204 := n7_
           have GW203 := n8_
           have GE203 := n9_
           have NB180_203 := n10_
           have NB203_180 := n11_
           have NB181_203 := n12_
           have NB203_181 := n13_
           have NB182_203 := n14_
           have NB203_182 := n15_
           have NB204_203 := n16_
           have NB203_204 := n17_
           have GW204 := n18_
           have GE204 := n19_
           have NB180_204 := n20_
           have NB204_180 := n21_
           have NB181_204 := n22_
           have NB204_181 := n23_
           have NB182_204 := n24_
           have NB204_182 := n25_
           have HB := n26_
           clear n0_ n1_ n2_ n3_ n4_ n5_ n6_ n7_ n8_ n9_ n10_ n11_ n12_ n13_ n14_ n15_ n16_ n17_ n18_ n19_ n20_ n21_ n22_ n23_ n24_ n25_ n26_
           have hHeld : w34.cell? ⟨gb180, 0, none⟩ = some (.slice A0_0 l0_0.length c0_0) ∧ w34.cell? ⟨gb180, 1, none⟩ = some (.slice A0_1 l0_1.length c0_1) ∧ w34.cell? ⟨gb180, 2, none⟩ = some (.slice A0_2 l0_2.length c0_2) ∧ w34.cell? ⟨gb181, 0, none⟩ = some (.slice A1_0 l1_0.length c1_0) ∧ w34.cell? ⟨gb181, 1, none⟩ = some (.slice A1_1 l1_1.length c1_1) ∧ w34.cell? ⟨gb181, 2, none⟩ = some (.slice A1_2 l1_2.length c1_2) := hS_
           refine norm_ (a' := ?_) ?_ ?_
           rotate_left
           ·simp only [putAll, Act.put, List.setIfInBounds_toArray, List.set_cons_zero, List.set_cons_succ]
            rfl
           refine one_ (i := 3) (N := some 20) #[true, true, true, true, true, true, false, false] rfl rfl (one_of HT_.out (by kernel_rfl)) (by decide) (fun K hK => ?_)
           refine goes_ Tryd.func12 (by kernel_rfl) rfl #[.agg #[.slice A1_0 l1_0.length c1_0, .slice A1_1 l1_1.length c1_1, .slice A1_2 l1_2.length c1_2]] (by rfl) rfl rfl (by (try simp only [List.map_toArray, List.map_cons, List.map_nil]); first | done | rfl | (simp only [List.length_drop, List.length_take]; rfl) | (simp; done)) ?_
           with_reducible refine (depotref00_CopyRequest.calls kj2 _ _ l1_0 _ _ l1_1 _ _ l1_2 t194 t197 t200 _ ?side1 ?side2 ?side3 ?side4 ?side5 ?side6 A26.out).mono ?_
           (case side1 => exact Cq HR1_0.out HB.out)
           (case side2 => exact HC1_0.out)
           (case side3 => exact Cq HR1_1.out HB.out)
           (case side4 => exact HC1_1.out)
           (case side5 => exact Cq HR1_2.out HB.out)
           (case side6 => exact HC1_2.out)
           rintro e w35 ⟨v195, v198, v201, rfl, ho0, ho1, ho2, hb⟩
           refine ⟨_, rfl, ?_⟩
           have n0_ := Aside0.mk (Kd.N_mono (Kd.N_told (Kd.N_told (Kd.N_told (Kd.N_old (Nq HO187.out) hb) (by first | exact Kd.N_base ho0 | exact Kd.S_base ho0)) (Kd.R_base ho1)) (Kd.R_base ho2)) (fun _ h_ => h_.1))
           have n1_ := Aside0.mk (Kd.R_elder' (Rq HO190.out) (Kd.R_base ho1) hb)
           have n2_ := Aside0.mk (Kd.R_elder' (Rq HO193.out) (Kd.R_base ho2) hb)
           have n3_ := Aside0.mk (Kd.N_lower (Kd.N_mono (ok' := fun k_ => (w.heap.size ≤ k_) ∧ some k_ ≠ (v198 : Value).ownBlock ∧ some k_ ≠ (v201 : Value).ownBlock ∧ some k_ ≠ (v186 : Value).ownBlock ∧ some k_ ≠ (v189 : Value).ownBlock ∧ some k_ ≠ (v192 : Value).ownBlock ∧ k_ ≠ gb180 ∧ k_ ≠ gb181 ∧ k_ ≠ gb182 ∧ k_ ≠ gb203 ∧ k_ ≠ gb204) (Kd.S_N (Kd.S_bound (Kd.S_apart' ho0 (Kd.R_typed ho2) (by decide)))) (fun k_ hk_ => ⟨(Nat.le_trans (below_size (W5 HB.out GE180.out GE181.out GE182.out GE203.out GE204.out)) hk_.2.1), hk_.1.1, hk_.1.2, (Kd.fresh' (Kd.N_lt (Nq HO187.out)) k_ hk_.2.1), (Kd.fresh' (Kd.R_lt (Rq HO190.out)) k_ hk_.2.1), (Kd.fresh' (Kd.R_lt (Rq HO193.out)) k_ hk_.2.1), (Kd.freshB (g := gb180) (Bq BK180.out) k_ hk_.2.1), (Kd.freshB (g := gb181) (Bq BK181.out) k_ hk_.2.1), (Kd.freshB (g := gb182) (Bq BK182.out) k_ hk_.2.1), (Kd.freshB (g := gb203) (Bq BK203.out) k_ hk_.2.1), (Kd.freshB (g := gb204) (Bq BK204.out) k_ hk_.2.1)⟩)) (below_size (W5 HB.out GE180.out GE181.out GE182.out GE203.out GE204.out)))
           have n4_ := Aside0.mk (Kd.R_lower (Kd.R_new' (Kd.R_newM (M := fun k_ => (w.heap.size ≤ k_)) ho1 (below_size (W5 HB.out GE180.out GE181.out GE182.out GE203.out GE204.out)) (fun k_ h_ => h_)) (Kd.R_lt (Rq HO190.out))) (below_size (W5 HB.out GE180.out GE181.out GE182.out GE203.out GE204.out)))
           have n5_ := Aside0.mk (Kd.R_lower (Kd.R_new' (Kd.R_newM (M := fun k_ => (w.heap.size ≤ k_)) ho2 (below_size (W5 HB.out GE180.out GE181.out GE182.out GE203.out GE204.out)) (fun k_ h_ => h_)) (Kd.R_lt (Rq HO193.out))) (below_size (W5 HB.out GE180.out GE181.out GE182.out GE203.out GE204.out)))
           have n6_ := Aside0.mk (blk_below (g := gb180) (Bq BK180.out) hb)
           have n7_ := Aside0.mk (blk_below (g := gb181) (Bq BK181.out) hb)
           have n8_ := Aside0.mk (blk_below (g := gb182) (Bq BK182.out) hb)
           have n9_ := Aside0.mk (blk_below (g := gb203) (Bq BK203.out) hb)
           have n10_ := Aside0.mk (blk_below (g := gb204) (Bq BK204.out) hb)
           have n11_ := Aside0.mk (below_step (W5 HB.out GE180.out GE181.out GE182.out GE203.out GE204.out) hb)
           clear HO187
           clear HO190
           clear HO193
           clear BK180
           clear BK181
           clear BK182
           clear BK203
           clear BK204
           clear HB
           have HO187 := n0_
           have HO190 := n1_
           have HO193 := n2_
           have HO196 := n3_
           have HO199 := n4_
           have HO202 := n5_
           have BK180 := n6_
           have BK181 := n7_
           have BK182 := n8_
           have BK203 := n9_
           have BK204 := n10_
           have HB := n11_
           clear n0_ n1_ n2_ n3_ n4_ n5_ n6_ n7_ n8_ n9_ n10_ n11_
           (try clear hb)
           (try clear hb2)
           (try clear hk)
           (try clear hi)
           (try clear ho0)
           (try clear ho1)
           (try clear ho2)
           refine hK.out _ _ ⟨(blk_cell BK180.out 0).trans rfl, (blk_cell BK180.out 1).trans rfl, (blk_cell BK180.out 2).trans rfl, (blk_cell BK181.out 0).trans rfl, (blk_cell BK181.out 1).trans rfl, (blk_cell BK181.out 2).trans rfl⟩ (fun hHeld => ?_)
           clear hK K
           refine norm_ (a' := ?_) ?_ ?_
           rotate_left
           ·show Act.put _ (some 20) _ = _
            simp only [Act.put, List.setIfInBounds_toArray, List.set_cons_zero, List.set_cons_succ, i64_w, i32_w]
            rfl
           exact norm_ (by first | (simp only [putAll, Act.put, List.setIfInBounds_toArray, List.set_cons_zero, List.set_cons_succ]; done) | (simp only [putAll, Act.put, List.setIfInBounds_toArray, List.set_cons_zero, List.set_cons_succ]; rfl)) (hJ1_3_4_5 (v186, v189, v192, v195, v198, v201, gb203, gb204) _ ⟨hHeld, (by (with_reducible repeat (first | apply Kd.N_alloc | apply Kd.N_drewN | apply Kd.N_drew)); exact Kd.N_mono HO187.out (fun _ hk => ⟨hk.1.1.1.1, ⟨hk.1.1.1.2.1, ⟨hk.1.1.1.2.2.1, ⟨hk.1.1.2, ⟨hk.1.2, ⟨hk.2, ⟨hk.1.1.1.2.2.2.1, ⟨hk.1.1.1.2.2.2.2.1, ⟨hk.1.1.1.2.2.2.2.2.1, ⟨hk.1.1.1.2.2.2.2.2.2.1, hk.1.1.1.2.2.2.2.2.2.2⟩⟩⟩⟩⟩⟩⟩⟩⟩⟩)), (Rq HO190.out), (Rq HO193.out), (by (with_reducible repeat (first | apply Kd.N_alloc | apply Kd.N_drewN | apply Kd.N_drew)); exact Kd.N_mono HO196.out (fun _ hk => ⟨hk.1, ⟨hk.2.2.2.1, ⟨hk.2.2.2.2.1, ⟨hk.2.2.2.2.2.1, ⟨hk.2.1, ⟨hk.2.2.1, ⟨hk.2.2.2.2.2.2.1, ⟨hk.2.2.2.2.2.2.2.1, ⟨hk.2.2.2.2.2.2.2.2.1, ⟨hk.2.2.2.2.2.2.2.2.2.1, hk.2.2.2.2.2.2.2.2.2.2⟩⟩⟩⟩⟩⟩⟩⟩⟩⟩)), (by (with_reducible repeat (first | apply Kd.R_alloc | apply Kd.R_drewN | apply Kd.R_drew)); exact Kd.R_mono HO199.out (fun _ hk => ⟨hk.1.1, hk.2⟩)), (by (with_reducible repeat (first | apply Kd.R_alloc | apply Kd.R_drewN | apply Kd.R_drew)); exact Kd.R_mono HO202.out (fun _ hk => ⟨hk.1.1, hk.2⟩)), (Bq BK180.out), (Bq BK181.out), (Bq BK182.out), (Bq BK203.out), (Bq BK204.out), GW203.out, GE203.out, NB180_203.out, NB203_180.out, NB181_203.out, NB203_181.out, NB182_203.out, NB203_182.out, NB204_203.out, NB203_204.out, GW204.out, GE204.out, NB180_204.out, NB204_180.out, NB181_204.out, NB204_181.out, NB182_204.out, NB204_182.out, (W5 HB.out GE180.out GE181.out GE182.out GE203.out GE204.out)⟩)
         ·skip
          rintro ⟨v186, v189, v192, v195, v198, v201, gb204⟩ w34 ⟨hS_, h0_, h1_, h2_, h3_, h4_, h5_, h6_, h7_, h8_, h9_, h10_, h11_, h12_, h13_, h14_, h15_, h16_, h17_, h18_⟩
          have n0_ : Aside0 (Kd.N (Kd.slice 46 k46) 23 w34 w.heap.size (fun k_ => (w.heap.size ≤ k_) ∧ some k_ ≠ (v189 : Value).ownBlock ∧ some k_ ≠ (v192 : Value).ownBlock ∧ some k_ ≠ (v195 : Value).ownBlock ∧ some k_ ≠ (v198 : Value).ownBlock ∧ some k_ ≠ (v201 : Value).ownBlock ∧ k_ ≠ gb180 ∧ k_ ≠ gb181 ∧ k_ ≠ gb182 ∧ k_ ≠ gb204) v186 t185) := ⟨h0_⟩
          have n1_ : Aside0 (Kd.R k46 46 w34 w.heap.size (fun k_ => (w.heap.size ≤ k_) ∧ some k_ ≠ (v198 : Value).ownBlock) v189 t188) := ⟨h1_⟩
          have n2_ : Aside0 (Kd.R k48 48 w34 w.heap.size (fun k_ => (w.heap.size ≤ k_) ∧ some k_ ≠ (v201 : Value).ownBlock) v192 t191) := ⟨h2_⟩
          have n3_ : Aside0 (Kd.N (Kd.slice 46 k46) 23 w34 w.heap.size (fun k_ => (w.heap.size ≤ k_) ∧ some k_ ≠ (v186 : Value).ownBlock ∧ some k_ ≠ (v189 : Value).ownBlock ∧ some k_ ≠ (v192 : Value).ownBlock ∧ some k_ ≠ (v198 : Value).ownBlock ∧ some k_ ≠ (v201 : Value).ownBlock ∧ k_ ≠ gb180 ∧ k_ ≠ gb181 ∧ k_ ≠ gb182 ∧ k_ ≠ gb204) v195 t194) := ⟨h3_⟩
          have n4_ : Aside0 (Kd.R k46 46 w34 w.heap.size (fun k_ => (w.heap.size ≤ k_) ∧ some k_ ≠ (v189 : Value).ownBlock) v198 t197) := ⟨h4_⟩
          have n5_ : Aside0 (Kd.R k48 48 w34 w.heap.size (fun k_ => (w.heap.size ≤ k_) ∧ some k_ ≠ (v192 : Value).ownBlock) v201 t200) := ⟨h5_⟩
          have n6_ : Aside0 (w34.heap[gb180]? = some (.cells #[.slice A0_0 l0_0.length c0_0, .slice A0_1 l0_1.length c0_1, .slice A0_2 l0_2.length c0_2] 26 (0, 0))) := ⟨h6_⟩
          have n7_ : Aside0 (w34.heap[gb181]? = some (.cells #[.slice A1_0 l1_0.length c1_0, .slice A1_1 l1_1.length c1_1, .slice A1_2 l1_2.length c1_2] 26 (0, 0))) := ⟨h7_⟩
          have n8_ : Aside0 (w34.heap[gb182]? = some (.cells #[.slice none 0 0, .slice none 0 0, .slice none 0 0] 26 (0, 0))) := ⟨h8_⟩
          have n9_ : Aside0 (w34.heap[gb204]? = some (.cells #[.slice none 0 0, .slice none 0 0, .slice none 0 0] 26 (0, 0))) := ⟨h9_⟩
          have n10_ : Aside0 (w.heap.size ≤ gb204) := ⟨h10_⟩
          have n11_ : Aside0 (w.heap.size ≤ gb204) := ⟨h11_⟩
          have n12_ : Aside0 (gb180 ≠ gb204) := ⟨h12_⟩
          have n13_ : Aside0 (gb204 ≠ gb180) := ⟨h13_⟩
          have n14_ : Aside0 (gb181 ≠ gb204) := ⟨h14_⟩
          have n15_ : Aside0 (gb204 ≠ gb181) := ⟨h15_⟩
          have n16_ : Aside0 (gb182 ≠ gb204) := ⟨h16_⟩
          have n17_ : Aside0 (gb204 ≠ gb182) := ⟨h17_⟩
          have n18_ : Aside0 (Below w.heap.size w w34) := ⟨h18_⟩
          clear BK180
          clear BK181
          clear BK182
          clear HB
          clear h0_ h1_ h2_ h3_ h4_ h5_ h6_ h7_ h8_ h9_ h10_ h11_ h12_ h13_ h14_ h15_ h16_ h17_ h18_
          have HO187 := n0_
          have HO190 := n1_
          have HO193 := n2_
          have HO196 := n3_
          have HO199 := n4_
          have HO202 := n5_
          have BK180 := n6_
          have BK181 := n7_
          have BK182 := n8_
          have BK204 := n9_
          have GW204 := n10_
          have GE204 := n11_
          have NB180_204 := n12_
          have NB204_180 := n13_
          have NB181_204 := n14_
          have NB204_181 := n15_
          have NB182_204 := n16_
          have NB204_182 := n17_
          have HB := n18_
          clear n0_ n1_ n2_ n3_ n4_ n5_ n6_ n7_ n8_ n9_ n10_ n11_ n12_ n13_ n14_ n15_ n16_ n17_ n18_
          have hHeld : w34.cell? ⟨gb180, 0, none⟩ = some (.slice A0_0 l0_0.length c0_0) ∧ w34.cell? ⟨gb180, 1, none⟩ = some (.slice A0_1 l0_1.length c0_1) ∧ w34.cell? ⟨gb180, 2, none⟩ = some (.slice A0_2 l0_2.length c0_2) ∧ w34.cell? ⟨gb181, 0, none⟩ = some (.slice A1_0 l1_0.length c1_0) ∧ w34.cell? ⟨gb181, 1, none⟩ = some (.slice A1_1 l1_1.length c1_1) ∧ w34.cell? ⟨gb181, 2, none⟩ = some (.slice A1_2 l1_2.length c1_2) := hS_
          refine norm_ (a' := ?_) ?_ ?_
          rotate_left
          ·simp only [putAll, Act.put, List.setIfInBounds_toArray, List.set_cons_zero, List.set_cons_succ]
           rfl
          refine one_ (i := 4) (N := some 6) #[true, true, true, true, true, true, false, false] rfl rfl (one_of HT_.out (by kernel_rfl)) (by decide) (fun K hK => ?_)
          refine box_step ?hg (N := 6) ?hd (cs := #[.slice none 0 0, .slice none 0 0, .slice none 0 0]) (t := 26) ?hr ?_; (case hd => rfl); (case hg => rfl); (case hr => first | (go_simp; done) | (go_simp; rfl))
          intro gb203 hg w35 hbox hb
          have n0_ := Aside0.mk (Kd.N_below (Kd.N_elderB (Nq HO187.out) gb203 (Nat.le_of_eq hg.symm)) hb)
          have n1_ := Aside0.mk (Kd.R_below (Rq HO190.out) hb)
          have n2_ := Aside0.mk (Kd.R_below (Rq HO193.out) hb)
          have n3_ := Aside0.mk (Kd.N_below (Kd.N_elderB (Nq HO196.out) gb203 (Nat.le_of_eq hg.symm)) hb)
          have n4_ := Aside0.mk (Kd.R_below (Rq HO199.out) hb)
          have n5_ := Aside0.mk (Kd.R_below (Rq HO202.out) hb)
          have n6_ := Aside0.mk (blk_below (g := gb180) (Bq BK180.out) hb)
          have n7_ := Aside0.mk (blk_below (g := gb181) (Bq BK181.out) hb)
          have n8_ := Aside0.mk (blk_below (g := gb182) (Bq BK182.out) hb)
          have n9_ := Aside0.mk (blk_below (g := gb204) (Bq BK204.out) hb)
          have n10_ := Aside0.mk (below_step (W4 HB.out GE180.out GE181.out GE182.out GE204.out) hb)
          have n11_ := Aside0.mk (hbox)
          have n12_ := Aside0.mk ((by rw [hg]; exact (below_size (W4 HB.out GE180.out GE181.out GE182.out GE204.out)) : w.heap.size ≤ gb203))
          have n13_ := Aside0.mk ((by rw [hg]; exact (below_size (W4 HB.out GE180.out GE181.out GE182.out GE204.out)) : w.heap.size ≤ gb203))
          have n14_ := Aside0.mk ((by rw [hg]; exact Nat.ne_of_lt (blk_lt (g := gb180) (Bq BK180.out)) : gb180 ≠ gb203))
          have n15_ := Aside0.mk ((by rw [hg]; exact Nat.ne_of_gt (blk_lt (g := gb180) (Bq BK180.out)) : gb203 ≠ gb180))
          have n16_ := Aside0.mk ((by rw [hg]; exact Nat.ne_of_lt (blk_lt (g := gb181) (Bq BK181.out)) : gb181 ≠ gb203))
          have n17_ := Aside0.mk ((by rw [hg]; exact Nat.ne_of_gt (blk_lt (g := gb181) (Bq BK181.out)) : gb203 ≠ gb181))
          have n18_ := Aside0.mk ((by rw [hg]; exact Nat.ne_of_lt (blk_lt (g := gb182) (Bq BK182.out)) : gb182 ≠ gb203))
          have n19_ := Aside0.mk ((by rw [hg]; exact Nat.ne_of_gt (blk_lt (g := gb182) (Bq BK182.out)) : gb203 ≠ gb182))
          have n20_ := Aside0.mk ((by rw [hg]; exact Nat.ne_of_lt (blk_lt (g := gb204) (Bq BK204.out)) : gb204 ≠ gb203))
          have n21_ := Aside0.mk ((by rw [hg]; exact Nat.ne_of_gt (blk_lt (g := gb204) (Bq BK204.out)) : gb203 ≠ gb204))
          clear HO187
          clear HO190
          clear HO193
          clear HO196
          clear HO199
          clear HO202
          clear BK180
          clear BK181
          clear BK182
          clear BK204
          clear HB
          have HO187 := n0_
          have HO190 := n1_
          have HO193 := n2_
          have HO196 := n3_
          have HO199 := n4_
          have HO202 := n5_
          have BK180 := n6_
          have BK181 := n7_
          have BK182 := n8_
          have BK204 := n9_
          have HB := n10_
          have BK203 := n11_
          have GW203 := n12_
          have GE203 := n13_
          have NB180_203 := n14_
          have NB203_180 := n15_
          have NB181_203 := n16_
          have NB203_181 := n17_
          have NB182_203 := n18_
          have NB203_182 := n19_
          have NB204_203 := n20_
          have NB203_204 := n21_
          clear n0_ n1_ n2_ n3_ n4_ n5_ n6_ n7_ n8_ n9_ n10_ n11_ n12_ n13_ n14_ n15_ n16_ n17_ n18_ n19_ n20_ n21_
          clear hb hbox hg
          refine hK.out _ _ ⟨(blk_cell BK180.out 0).trans rfl, (blk_cell BK180.out 1).trans rfl, (blk_cell BK180.out 2).trans rfl, (blk_cell BK181.out 0).trans rfl, (blk_cell BK181.out 1).trans rfl, (blk_cell BK181.out 2).trans rfl⟩ (fun hHeld => ?_)
          clear hK K
          refine norm_ (a' := ?_) ?_ ?_
          rotate_left
          ·show Act.put _ (some 6) _ = _
           simp only [Act.put, List.setIfInBounds_toArray, List.set_cons_zero, List.set_cons_succ, i64_w, i32_w]
           rfl
          exact norm_ (by first | (simp only [putAll, Act.put, List.setIfInBounds_toArray, List.set_cons_zero, List.set_cons_succ]; done) | (simp only [putAll, Act.put, List.setIfInBounds_toArray, List.set_cons_zero, List.set_cons_succ]; rfl)) (hJ1_3_4_5 (v186, v189, v192, v195, v198, v201, gb203, gb204) _ ⟨hHeld, (by (with_reducible repeat (first | apply Kd.N_alloc | apply Kd.N_drewN | apply Kd.N_drew)); exact Kd.N_mono HO187.out (fun _ hk => ⟨hk.1.1, ⟨hk.1.2.1, ⟨hk.1.2.2.1, ⟨hk.1.2.2.2.1, ⟨hk.1.2.2.2.2.1, ⟨hk.1.2.2.2.2.2.1, ⟨hk.1.2.2.2.2.2.2.1, ⟨hk.1.2.2.2.2.2.2.2.1, ⟨hk.1.2.2.2.2.2.2.2.2.1, ⟨hk.2, hk.1.2.2.2.2.2.2.2.2.2⟩⟩⟩⟩⟩⟩⟩⟩⟩⟩)), (Rq HO190.out), (Rq HO193.out), (by (with_reducible repeat (first | apply Kd.N_alloc | apply Kd.N_drewN | apply Kd.N_drew)); exact Kd.N_mono HO196.out (fun _ hk => ⟨hk.1.1, ⟨hk.1.2.1, ⟨hk.1.2.2.1, ⟨hk.1.2.2.2.1, ⟨hk.1.2.2.2.2.1, ⟨hk.1.2.2.2.2.2.1, ⟨hk.1.2.2.2.2.2.2.1, ⟨hk.1.2.2.2.2.2.2.2.1, ⟨hk.1.2.2.2.2.2.2.2.2.1, ⟨hk.2, hk.1.2.2.2.2.2.2.2.2.2⟩⟩⟩⟩⟩⟩⟩⟩⟩⟩)), (Rq HO199.out), (Rq HO202.out), (Bq BK180.out), (Bq BK181.out), (Bq BK182.out), (Bq BK203.out), (Bq BK204.out), GW203.out, GE203.out, NB180_203.out, NB203_180.out, NB181_203.out, NB203_181.out, NB182_203.out, NB203_182.out, NB204_203.out, NB203_204.out, GW204.out, GE204.out, NB180_204.out, NB204_180.out, NB181_204.out, NB204_181.out, NB182_204.out, NB204_182.out, (W5 HB.out GE180.out GE181.out GE182.out GE204.out GE203.out)⟩)
        ·skip
         rintro ⟨v186, v189, v192, v195, v198, v201, gb203⟩ w34 ⟨hS_, h0_, h1_, h2_, h3_, h4_, h5_, h6_, h7_, h8_, h9_, h10_, h11_, h12_, h13_, h14_, h15_, h16_, h17_, h18_⟩
         have n0_ : Aside0 (Kd.N (Kd.slice 46 k46) 23 w34 w.heap.size (fun k_ => (w.heap.size ≤ k_) ∧ some k_ ≠ (v189 : Value).ownBlock ∧ some k_ ≠ (v192 : Value).ownBlock ∧ some k_ ≠ (v195 : Value).ownBlock ∧ some k_ ≠ (v198 : Value).ownBlock ∧ some k_ ≠ (v201 : Value).ownBlock ∧ k_ ≠ gb180 ∧ k_ ≠ gb181 ∧ k_ ≠ gb182 ∧ k_ ≠ gb203) v186 t185) := ⟨h0_⟩
         have n1_ : Aside0 (Kd.R k46 46 w34 w.heap.size (fun k_ => (w.heap.size ≤ k_) ∧ some k_ ≠ (v198 : Value).ownBlock) v189 t188) := ⟨h1_⟩
         have n2_ : Aside0 (Kd.R k48 48 w34 w.heap.size (fun k_ => (w.heap.size ≤ k_) ∧ some k_ ≠ (v201 : Value).ownBlock) v192 t191) := ⟨h2_⟩
         have n3_ : Aside0 (Kd.N (Kd.slice 46 k46) 23 w34 w.heap.size (fun k_ => (w.heap.size ≤ k_) ∧ some k_ ≠ (v186 : Value).ownBlock ∧ some k_ ≠ (v189 : Value).ownBlock ∧ some k_ ≠ (v192 : Value).ownBlock ∧ some k_ ≠ (v198 : Value).ownBlock ∧ some k_ ≠ (v201 : Value).ownBlock ∧ k_ ≠ gb180 ∧ k_ ≠ gb181 ∧ k_ ≠ gb182 ∧ k_ ≠ gb203) v195 t194) := ⟨h3_⟩
         have n4_ : Aside0 (Kd.R k46 46 w34 w.heap.size (fun k_ => (w.heap.size ≤ k_) ∧ some k_ ≠ (v189 : Value).ownBlock) v198 t197) := ⟨h4_⟩
         have n5_ : Aside0 (Kd.R k48 48 w34 w.heap.size (fun k_ => (w.heap.size ≤ k_) ∧ some k_ ≠ (v192 : Value).ownBlock) v201 t200) := ⟨h5_⟩
         have n6_ : Aside0 (w34.heap[gb180]? = some (.cells #[.slice A0_0 l0_0.length c0_0, .slice A0_1 l0_1.length c0_1, .slice A0_2 l0_2.length c0_2] 26 (0, 0))) := ⟨h6_⟩
         have n7_ : Aside0 (w34.heap[gb181]? = some (.cells #[.slice A1_0 l1_0.length c1_0, .slice A1_1 l1_1.length c1_1, .slice A1_2 l1_2.length c1_2] 26 (0, 0))) := ⟨h7_⟩
         have n8_ : Aside0 (w34.heap[gb182]? = some (.cells #[.slice none 0 0, .slice none 0 0, .slice none 0 0] 26 (0, 0))) := ⟨h8_⟩
         have n9_ : Aside0 (w34.heap[gb203]? = some (.cells #[.slice none 0 0, .slice none 0 0, .slice none 0 0] 26 (0, 0))) := ⟨h9_⟩
         have n10_ : Aside0 (w.heap.size ≤ gb203) := ⟨h10_⟩
         have n11_ : Aside0 (w.heap.size ≤ gb203) := ⟨h11_⟩
         have n12_ : Aside0 (gb180 ≠ gb203) := ⟨h12_⟩
         have n13_ : Aside0 (gb203 ≠ gb180) := ⟨h13_⟩
         have n14_ : Aside0 (gb181 ≠ gb203) := ⟨h14_⟩
         have n15_ : Aside0 (gb203 ≠ gb181) := ⟨h15_⟩
         have n16_ : Aside0 (gb182 ≠ gb203) := ⟨h16_⟩
         have n17_ : Aside0 (gb203 ≠ gb182) := ⟨h17_⟩
         have n18_ : Aside0 (Below w.heap.size w w34) := ⟨h18_⟩
         clear BK180
         clear BK181
         clear BK182
         clear HB
         clear h0_ h1_ h2_ h3_ h4_ h5_ h6_ h7_ h8_ h9_ h10_ h11_ h12_ h13_ h14_ h15_ h16_ h17_ h18_
         have HO187 := n0_
         have HO190 := n1_
         have HO193 := n2_
         have HO196 := n3_
         have HO199 := n4_
         have HO202 := n5_
         have BK180 := n6_
         have BK181 := n7_
         have BK182 := n8_
         have BK203 := n9_
         have GW203 := n10_
         have GE203 := n11_
         have NB180_203 := n12_
         have NB203_180 := n13_
         have NB181_203 := n14_
         have NB203_181 := n15_
         have NB182_203 := n16_
         have NB203_182 := n17_
         have HB := n18_
         clear n0_ n1_ n2_ n3_ n4_ n5_ n6_ n7_ n8_ n9_ n10_ n11_ n12_ n13_ n14_ n15_ n16_ n17_ n18_
         have hHeld : w34.cell? ⟨gb180, 0, none⟩ = some (.slice A0_0 l0_0.length c0_0) ∧ w34.cell? ⟨gb180, 1, none⟩ = some (.slice A0_1 l0_1.length c0_1) ∧ w34.cell? ⟨gb180, 2, none⟩ = some (.slice A0_2 l0_2.length c0_2) ∧ w34.cell? ⟨gb181, 0, none⟩ = some (.slice A1_0 l1_0.length c1_0) ∧ w34.cell? ⟨gb181, 1, none⟩ = some (.slice A1_1 l1_1.length c1_1) ∧ w34.cell? ⟨gb181, 2, none⟩ = some (.slice A1_2 l1_2.length c1_2) := hS_
         refine norm_ (a' := ?_) ?_ ?_
         rotate_left
         ·simp only [putAll, Act.put, List.setIfInBounds_toArray, List.set_cons_zero, List.set_cons_succ]
          rfl
         refine one_ (i := 5) (N := some 7) #[true, true, true, true, true, true, false, false] rfl rfl (one_of HT_.out (by kernel_rfl)) (by decide) (fun K hK => ?_)
         refine box_step ?hg (N := 7) ?hd (cs := #[.slice none 0 0, .slice none 0 0, .slice none 0 0]) (t := 26) ?hr ?_; (case hd => rfl); (case hg => rfl); (case hr => first | (go_simp; done) | (go_simp; rfl))
         intro gb204 hg w35 hbox hb
         have n0_ := Aside0.mk (Kd.N_below (Kd.N_elderB (Nq HO187.out) gb204 (Nat.le_of_eq hg.symm)) hb)
         have n1_ := Aside0.mk (Kd.R_below (Rq HO190.out) hb)
         have n2_ := Aside0.mk (Kd.R_below (Rq HO193.out) hb)
         have n3_ := Aside0.mk (Kd.N_below (Kd.N_elderB (Nq HO196.out) gb204 (Nat.le_of_eq hg.symm)) hb)
         have n4_ := Aside0.mk (Kd.R_below (Rq HO199.out) hb)
         have n5_ := Aside0.mk (Kd.R_below (Rq HO202.out) hb)
         have n6_ := Aside0.mk (blk_below (g := gb180) (Bq BK180.out) hb)
         have n7_ := Aside0.mk (blk_below (g := gb181) (Bq BK181.out) hb)
         have n8_ := Aside0.mk (blk_below (g := gb182) (Bq BK182.out) hb)
         have n9_ := Aside0.mk (blk_below (g := gb203) (Bq BK203.out) hb)
         have n10_ := Aside0.mk (below_step (W4 HB.out GE180.out GE181.out GE182.out GE203.out) hb)
         have n11_ := Aside0.mk (hbox)
         have n12_ := Aside0.mk ((by rw [hg]; exact (below_size (W4 HB.out GE180.out GE181.out GE182.out GE203.out)) : w.heap.size ≤ gb204))
         have n13_ := Aside0.mk ((by rw [hg]; exact (below_size (W4 HB.out GE180.out GE181.out GE182.out GE203.out)) : w.heap.size ≤ gb204))
         have n14_ := Aside0.mk ((by rw [hg]; exact Nat.ne_of_lt (blk_lt (g := gb180) (Bq BK180.out)) : gb180 ≠ gb204))
         have n15_ := Aside0.mk ((by rw [hg]; exact Nat.ne_of_gt (blk_lt (g := gb180) (Bq BK180.out)) : gb204 ≠ gb180))
         have n16_ := Aside0.mk ((by rw [hg]; exact Nat.ne_of_lt (blk_lt (g := gb181) (Bq BK181.out)) : gb181 ≠ gb204))
         have n17_ := Aside0.mk ((by rw [hg]; exact Nat.ne_of_gt (blk_lt (g := gb181) (Bq BK181.out)) : gb204 ≠ gb181))
         have n18_ := Aside0.mk ((by rw [hg]; exact Nat.ne_of_lt (blk_lt (g := gb182) (Bq BK182.out)) : gb182 ≠ gb204))
         have n19_ := Aside0.mk ((by rw [hg]; exact Nat.ne_of_gt (blk_lt (g := gb182) (Bq BK182.out)) : gb204 ≠ gb182))
         have n20_ := Aside0.mk ((by rw [hg]; exact Nat.ne_of_lt (blk_lt (g := gb203) (Bq BK203.out)) : gb203 ≠ gb204))
         have n21_ := Aside0.mk ((by rw [hg]; exact Nat.ne_of_gt (blk_lt (g := gb203) (Bq BK203.out)) : gb204 ≠ gb203))
         clear HO187
         clear HO190
         clear HO193
         clear HO196
         clear HO199
         clear HO202
         clear BK180
         clear BK181
         clear BK182
         clear BK203
         clear HB
         have HO187 := n0_
         have HO190 := n1_
         have HO193 := n2_
         have HO196 := n3_
         have HO199 := n4_
         have HO202 := n5_
         have BK180 := n6_
         have BK181 := n7_
         have BK182 := n8_
         have BK203 := n9_
         have HB := n10_
         have BK204 := n11_
         have GW204 := n12_
         have GE204 := n13_
         have NB180_204 := n14_
         have NB204_180 := n15_
         have NB181_204 := n16_
         have NB204_181 := n17_
         have NB182_204 := n18_
         have NB204_182 := n19_
         have NB203_204 := n20_
         have NB204_203 := n21_
         clear n0_ n1_ n2_ n3_ n4_ n5_ n6_ n7_ n8_ n9_ n10_ n11_ n12_ n13_ n14_ n15_ n16_ n17_ n18_ n19_ n20_ n21_
         clear hb hbox hg
         refine hK.out _ _ ⟨(blk_cell BK180.out 0).trans rfl, (blk_cell BK180.out 1).trans rfl, (blk_cell BK180.out 2).trans rfl, (blk_cell BK181.out 0).trans rfl, (blk_cell BK181.out 1).trans rfl, (blk_cell BK181.out 2).trans rfl⟩ (fun hHeld => ?_)
         clear hK K
         refine norm_ (a' := ?_) ?_ ?_
         rotate_left
         ·show Act.put _ (some 7) _ = _
          simp only [Act.put, List.setIfInBounds_toArray, List.set_cons_zero, List.set_cons_succ, i64_w, i32_w]
          rfl
         exact norm_ (by first | (simp only [putAll, Act.put, List.setIfInBounds_toArray, List.set_cons_zero, List.set_cons_succ]; done) | (simp only [putAll, Act.put, List.setIfInBounds_toArray, List.set_cons_zero, List.set_cons_succ]; rfl)) (hJ1_3_4_5 (v186, v189, v192, v195, v198, v201, gb203, gb204) _ ⟨hHeld, (by (with_reducible repeat (first | apply Kd.N_alloc | apply Kd.N_drewN | apply Kd.N_drew)); exact Kd.N_mono HO187.out (fun _ hk => ⟨hk.1.1, ⟨hk.1.2.1, ⟨hk.1.2.2.1, ⟨hk.1.2.2.2.1, ⟨hk.1.2.2.2.2.1, ⟨hk.1.2.2.2.2.2.1, ⟨hk.1.2.2.2.2.2.2.1, ⟨hk.1.2.2.2.2.2.2.2.1, ⟨hk.1.2.2.2.2.2.2.2.2.1, ⟨hk.1.2.2.2.2.2.2.2.2.2, hk.2⟩⟩⟩⟩⟩⟩⟩⟩⟩⟩)), (Rq HO190.out), (Rq HO193.out), (by (with_reducible repeat (first | apply Kd.N_alloc | apply Kd.N_drewN | apply Kd.N_drew)); exact Kd.N_mono HO196.out (fun _ hk => ⟨hk.1.1, ⟨hk.1.2.1, ⟨hk.1.2.2.1, ⟨hk.1.2.2.2.1, ⟨hk.1.2.2.2.2.1, ⟨hk.1.2.2.2.2.2.1, ⟨hk.1.2.2.2.2.2.2.1, ⟨hk.1.2.2.2.2.2.2.2.1, ⟨hk.1.2.2.2.2.2.2.2.2.1, ⟨hk.1.2.2.2.2.2.2.2.2.2, hk.2⟩⟩⟩⟩⟩⟩⟩⟩⟩⟩)), (Rq HO199.out), (Rq HO202.out), (Bq BK180.out), (Bq BK181.out), (Bq BK182.out), (Bq BK203.out), (Bq BK204.out), GW203.out, GE203.out, NB180_203.out, NB203_180.out, NB181_203.out, NB203_181.out, NB182_203.out, NB203_182.out, NB204_203.out, NB203_204.out, GW204.out, GE204.out, NB180_204.out, NB204_180.out, NB181_204.out, NB204_181.out, NB182_204.out, NB204_182.out, (W5 HB.out GE180.out GE181.out GE182.out GE203.out GE204.out)⟩)
       rintro ⟨v186, v189, v192, v195, v198, v201, gb203, gb204⟩ w35 ⟨hS_, h0_, h1_, h2_, h3_, h4_, h5_, h6_, h7_, h8_, h9_, h10_, h11_, h12_, h13_, h14_, h15_, h16_, h17_, h18_, h19_, h20_, h21_, h22_, h23_, h24_, h25_, h26_, h27_, h28_, h29_⟩
       have n0_ : Aside0 (Kd.N (Kd.slice 46 k46) 23 w35 w.heap.size (fun k_ => (w.heap.size ≤ k_) ∧ some k_ ≠ (v189 : Value).ownBlock ∧ some k_ ≠ (v192 : Value).ownBlock ∧ some k_ ≠ (v195 : Value).ownBlock ∧ some k_ ≠ (v198 : Value).ownBlock ∧ some k_ ≠ (v201 : Value).ownBlock ∧ k_ ≠ gb180 ∧ k_ ≠ gb181 ∧ k_ ≠ gb182 ∧ k_ ≠ gb203 ∧ k_ ≠ gb204) v186 t185) := ⟨h0_⟩
       have n1_ : Aside0 (Kd.R k46 46 w35 w.heap.size (fun k_ => (w.heap.size ≤ k_) ∧ some k_ ≠ (v198 : Value).ownBlock) v189 t188) := ⟨h1_⟩
       have n2_ : Aside0 (Kd.R k48 48 w35 w.heap.size (fun k_ => (w.heap.size ≤ k_) ∧ some k_ ≠ (v201 : Value).ownBlock) v192 t191) := ⟨h2_⟩
       have n3_ : Aside0 (Kd.N (Kd.slice 46 k46) 23 w35 w.heap.size (fun k_ => (w.heap.size ≤ k_) ∧ some k_ ≠ (v186 : Value).ownBlock ∧ some k_ ≠ (v189 : Value).ownBlock ∧ some k_ ≠ (v192 : Value).ownBlock ∧ some k_ ≠ (v198 : Value).ownBlock ∧ some k_ ≠ (v201 : Value).ownBlock ∧ k_ ≠ gb180 ∧ k_ ≠ gb181 ∧ k_ ≠ gb182 ∧ k_ ≠ gb203 ∧ k_ ≠ gb204) v195 t194) := ⟨h3_⟩
       have n4_ : Aside0 (Kd.R k46 46 w35 w.heap.size (fun k_ => (w.heap.size ≤ k_) ∧ some k_ ≠ (v189 : Value).ownBlock) v198 t197) := ⟨h4_⟩
       have n5_ : Aside0 (Kd.R k48 48 w35 w.heap.size (fun k_ => (w.heap.size ≤ k_) ∧ some k_ ≠ (v192 : Value).ownBlock) v201 t200) := ⟨h5_⟩
       have n6_ : Aside0 (w35.heap[gb180]? = some (.cells #[.slice A0_0 l0_0.length c0_0, .slice A0_1 l0_1.length c0_1, .slice A0_2 l0_2.length c0_2] 26 (0, 0))) := ⟨h6_⟩
       have n7_ : Aside0 (w35.heap[gb181]? = some (.cells #[.slice A1_0 l1_0.length c1_0, .slice A1_1 l1_1.length c1_1, .slice A1_2 l1_2.length c1_2] 26 (0, 0))) := ⟨h7_⟩
       have n8_ : Aside0 (w35.heap[gb182]? = some (.cells #[.slice none 0 0, .slice none 0 0, .slice none 0 0] 26 (0, 0))) := ⟨h8_⟩
       have n9_ : Aside0 (w35.heap[gb203]? = some (.cells #[.slice none 0 0, .slice none 0 0, .slice none 0 0] 26 (0, 0))) := ⟨h9_⟩
       have n10_ : Aside0 (w35.heap[gb204]? = some (.cells #[.slice none 0 0, .slice none 0 0, .slice none 0 0] 26 (0, 0))) := ⟨h10_⟩
       have n11_ : Aside0 (w.heap.size ≤ gb203) := ⟨h11_⟩
       have n12_ : Aside0 (w.heap.size ≤ gb203) := ⟨h12_⟩
       have n13_ : Aside0 (gb180 ≠ gb203) := ⟨h13_⟩
       have n14_ : Aside0 (gb203 ≠ gb180) := ⟨h14_⟩
       have n15_ : Aside0 (gb181 ≠ gb203) := ⟨h15_⟩
       have n16_ : Aside0 (gb203 ≠ gb181) := ⟨h16_⟩
       have n17_ : Aside0 (gb182 ≠ gb203) := ⟨h17_⟩
       have n18_ : Aside0 (gb203 ≠ gb182) := ⟨h18_⟩
       have n19_ : Aside0 (gb204 ≠ gb203) := ⟨h19_⟩
       have n20_ : Aside0 (gb203 ≠ gb204) := ⟨h20_⟩
       have n21_ : Aside0 (w.heap.size ≤ gb204) := ⟨h21_⟩
       have n22_ : Aside0 (w.heap.size ≤ gb204) := ⟨h22_⟩
       have n23_ : Aside0 (gb180 ≠ gb204) := ⟨h23_⟩
       have n24_ : Aside0 (gb204 ≠ gb180) := ⟨h24_⟩
       have n25_ : Aside0 (gb181 ≠ gb204) := ⟨h25_⟩
       have n26_ : Aside0 (gb204 ≠ gb181) := ⟨h26_⟩
       have n27_ : Aside0 (gb182 ≠ gb204) := ⟨h27_⟩
       have n28_ : Aside0 (gb204 ≠ gb182) := ⟨h28_⟩
       have n29_ : Aside0 (Below w.heap.size w w35) := ⟨h29_⟩
       clear BK180
       clear BK181
       clear BK182
       clear HB
       clear h0_ h1_ h2_ h3_ h4_ h5_ h6_ h7_ h8_ h9_ h10_ h11_ h12_ h13_ h14_ h15_ h16_ h17_ h18_ h19_ h20_ h21_ h22_ h23_ h24_ h25_ h26_ h27_ h28_ h29_
       have HO187 := n0_
       have HO190 := n1_
       have HO193 := n2_
       have HO196 := n3_
       have HO199 := n4_
       have HO202 := n5_
       have BK180 := n6_
       have BK181 := n7_
       have BK182 := n8_
       have BK203 := n9_
       have BK204 := n10_
       have GW203 := n11_
       have GE203 := n12_
       have NB180_203 := n13_
       have NB203_180 := n14_
       have NB181_203 := n15_
       have NB203_181 := n16_
       have NB182_203 := n17_
       have NB203_182 := n18_
       have NB204_203 := n19_
       have NB203_204 := n20_
       have GW204 := n21_
       have GE204 := n22_
       have NB180_204 := n23_
       have NB204_180 := n24_
       have NB181_204 := n25_
       have NB204_181 := n26_
       have NB182_204 := n27_
       have NB204_182 := n28_
       have HB := n29_
       clear n0_ n1_ n2_ n3_ n4_ n5_ n6_ n7_ n8_ n9_ n10_ n11_ n12_ n13_ n14_ n15_ n16_ n17_ n18_ n19_ n20_ n21_ n22_ n23_ n24_ n25_ n26_ n27_ n28_ n29_
       have hHeld : w35.cell? ⟨gb180, 0, none⟩ = some (.slice A0_0 l0_0.length c0_0) ∧ w35.cell? ⟨gb180, 1, none⟩ = some (.slice A0_1 l0_1.length c0_1) ∧ w35.cell? ⟨gb180, 2, none⟩ = some (.slice A0_2 l0_2.length c0_2) ∧ w35.cell? ⟨gb181, 0, none⟩ = some (.slice A1_0 l1_0.length c1_0) ∧ w35.cell? ⟨gb181, 1, none⟩ = some (.slice A1_1 l1_1.length c1_1) ∧ w35.cell? ⟨gb181, 2, none⟩ = some (.slice A1_2 l1_2.length c1_2) := hS_
       obtain ⟨Ao36, co36, eo36⟩ := Kd.N_slice HO187.out
       (first | subst eo36 | (injection eo36 with f1_ f2_ f3_; have f4_ := f1_.symm; have f5_ := f3_.symm; clear f1_ f2_ f3_; subst f4_; subst f5_))
       obtain ⟨Ao38, co38, eo38⟩ := Kd.R_slice HO190.out
       (first | subst eo38 | (injection eo38 with f1_ f2_ f3_; have f4_ := f1_.symm; have f5_ := f3_.symm; clear f1_ f2_ f3_; subst f4_; subst f5_))
       obtain ⟨Ao40, co40, eo40⟩ := Kd.R_slice HO193.out
       (first | subst eo40 | (injection eo40 with f1_ f2_ f3_; have f4_ := f1_.symm; have f5_ := f3_.symm; clear f1_ f2_ f3_; subst f4_; subst f5_))
       obtain ⟨Ao42, co42, eo42⟩ := Kd.N_slice HO196.out
       (first | subst eo42 | (injection eo42 with f1_ f2_ f3_; have f4_ := f1_.symm; have f5_ := f3_.symm; clear f1_ f2_ f3_; subst f4_; subst f5_))
       obtain ⟨Ao44, co44, eo44⟩ := Kd.R_slice HO199.out
       (first | subst eo44 | (injection eo44 with f1_ f2_ f3_; have f4_ := f1_.symm; have f5_ := f3_.symm; clear f1_ f2_ f3_; subst f4_; subst f5_))
       obtain ⟨Ao46, co46, eo46⟩ := Kd.R_slice HO202.out
       (first | subst eo46 | (injection eo46 with f1_ f2_ f3_; have f4_ := f1_.symm; have f5_ := f3_.symm; clear f1_ f2_ f3_; subst f4_; subst f5_))
       refine norm_ (a' := ?_) ?_ ?_
       rotate_left
       ·simp only [putAll, Act.put, List.setIfInBounds_toArray, List.set_cons_zero, List.set_cons_succ]
        rfl
       refine one_ (i := 6) (N := none) #[true, true, true, true, true, true, true, false] rfl rfl (one_of HT_.out (by kernel_rfl)) (by decide) (fun K hK => ?_)
       have hs37 : w35.cell? ⟨gb203, 0, none⟩ = some (.slice none 0 0) := (blk_cell BK203.out 0).trans rfl
       have hfs37 := blk_frozen BK203.out 0
       have hns37_0 := NB180_203.out
       have hns37_1 := NB181_203.out
       have hns37_2 := NB182_203.out
       have hns37_4 := NB204_203.out
       have hms37_0 := NB203_180.out
       have hms37_1 := NB203_181.out
       have hms37_2 := NB203_182.out
       have hms37_4 := NB203_204.out
       have hs39 : w35.cell? ⟨gb203, 1, none⟩ = some (.slice none 0 0) := (blk_cell BK203.out 1).trans rfl
       have hfs39 := blk_frozen BK203.out 1
       have hns39_0 := NB180_203.out
       have hns39_1 := NB181_203.out
       have hns39_2 := NB182_203.out
       have hns39_4 := NB204_203.out
       have hms39_0 := NB203_180.out
       have hms39_1 := NB203_181.out
       have hms39_2 := NB203_182.out
       have hms39_4 := NB203_204.out
       have hs41 : w35.cell? ⟨gb203, 2, none⟩ = some (.slice none 0 0) := (blk_cell BK203.out 2).trans rfl
       have hfs41 := blk_frozen BK203.out 2
       have hns41_0 := NB180_203.out
       have hns41_1 := NB181_203.out
       have hns41_2 := NB182_203.out
       have hns41_4 := NB204_203.out
       have hms41_0 := NB203_180.out
       have hms41_1 := NB203_181.out
       have hms41_2 := NB203_182.out
       have hms41_4 := NB203_204.out
       refine skip_ (w1 := ?_) (by rfl) rfl ?_ ?_
       rotate_left
       ·go_simp
        rfl
       refine hK.out _ _ ⟨((cell_far (p := ⟨gb203, _, none⟩) NB180_203.out _).trans (((cell_far (p := ⟨gb203, _, none⟩) NB180_203.out _).trans (((cell_far (p := ⟨gb203, _, none⟩) NB180_203.out _).trans (hHeld.1)))))), ((cell_far (p := ⟨gb203, _, none⟩) NB180_203.out _).trans (((cell_far (p := ⟨gb203, _, none⟩) NB180_203.out _).trans (((cell_far (p := ⟨gb203, _, none⟩) NB180_203.out _).trans (hHeld.2.1)))))), ((cell_far (p := ⟨gb203, _, none⟩) NB180_203.out _).trans (((cell_far (p := ⟨gb203, _, none⟩) NB180_203.out _).trans (((cell_far (p := ⟨gb203, _, none⟩) NB180_203.out _).trans (hHeld.2.2.1)))))), ((cell_far (p := ⟨gb203, _, none⟩) NB181_203.out _).trans (((cell_far (p := ⟨gb203, _, none⟩) NB181_203.out _).trans (((cell_far (p := ⟨gb203, _, none⟩) NB181_203.out _).trans (hHeld.2.2.2.1)))))), ((cell_far (p := ⟨gb203, _, none⟩) NB181_203.out _).trans (((cell_far (p := ⟨gb203, _, none⟩) NB181_203.out _).trans (((cell_far (p := ⟨gb203, _, none⟩) NB181_203.out _).trans (hHeld.2.2.2.2.1)))))), ((cell_far (p := ⟨gb203, _, none⟩) NB181_203.out _).trans (((cell_far (p := ⟨gb203, _, none⟩) NB181_203.out _).trans (((cell_far (p := ⟨gb203, _, none⟩) NB181_203.out _).trans (hHeld.2.2.2.2.2))))))⟩ (fun hHeld => ?_)
       clear hK K
       refine one_ (i := 7) (N := none) #[true, true, true, true, true, true, true, true] rfl rfl (one_of HT_.out (by kernel_rfl)) (by decide) (fun K hK => ?_)
       have hs43 : w35.cell? ⟨gb204, 0, none⟩ = some (.slice none 0 0) := (blk_cell BK204.out 0).trans rfl
       have hfs43 := blk_frozen BK204.out 0
       have hns43_0 := NB180_204.out
       have hns43_1 := NB181_204.out
       have hns43_2 := NB182_204.out
       have hns43_3 := NB203_204.out
       have hms43_0 := NB204_180.out
       have hms43_1 := NB204_181.out
       have hms43_2 := NB204_182.out
       have hms43_3 := NB204_203.out
       have hs45 : w35.cell? ⟨gb204, 1, none⟩ = some (.slice none 0 0) := (blk_cell BK204.out 1).trans rfl
       have hfs45 := blk_frozen BK204.out 1
       have hns45_0 := NB180_204.out
       have hns45_1 := NB181_204.out
       have hns45_2 := NB182_204.out
       have hns45_3 := NB203_204.out
       have hms45_0 := NB204_180.out
       have hms45_1 := NB204_181.out
       have hms45_2 := NB204_182.out
       have hms45_3 := NB204_203.out
       have hs47 : w35.cell? ⟨gb204, 2, none⟩ = some (.slice none 0 0) := (blk_cell BK204.out 2).trans rfl
       have hfs47 := blk_frozen BK204.out 2
       have hns47_0 := NB180_204.out
       have hns47_1 := NB181_204.out
       have hns47_2 := NB182_204.out
       have hns47_3 := NB203_204.out
       have hms47_0 := NB204_180.out
       have hms47_1 := NB204_181.out
       have hms47_2 := NB204_182.out
       have hms47_3 := NB204_203.out
       refine skip_ (w1 := ?_) (by rfl) rfl ?_ ?_
       rotate_left
       ·go_simp
        rfl
       refine hK.out _ _ ⟨((cell_far (p := ⟨gb204, _, none⟩) NB180_204.out _).trans (((cell_far (p := ⟨gb204, _, none⟩) NB180_204.out _).trans (((cell_far (p := ⟨gb204, _, none⟩) NB180_204.out _).trans (hHeld.1)))))), ((cell_far (p := ⟨gb204, _, none⟩) NB180_204.out _).trans (((cell_far (p := ⟨gb204, _, none⟩) NB180_204.out _).trans (((cell_far (p := ⟨gb204, _, none⟩) NB180_204.out _).trans (hHeld.2.1)))))), ((cell_far (p := ⟨gb204, _, none⟩) NB180_204.out _).trans (((cell_far (p := ⟨gb204, _, none⟩) NB180_204.out _).trans (((cell_far (p := ⟨gb204, _, none⟩) NB180_204.out _).trans (hHeld.2.2.1)))))), ((cell_far (p := ⟨gb204, _, none⟩) NB181_204.out _).trans (((cell_far (p := ⟨gb204, _, none⟩) NB181_204.out _).trans (((cell_far (p := ⟨gb204, _, none⟩) NB181_204.out _).trans (hHeld.2.2.2.1)))))), ((cell_far (p := ⟨gb204, _, none⟩) NB181_204.out _).trans (((cell_far (p := ⟨gb204, _, none⟩) NB181_204.out _).trans (((cell_far (p := ⟨gb204, _, none⟩) NB181_204.out _).trans (hHeld.2.2.2.2.1)))))), ((cell_far (p := ⟨gb204, _, none⟩) NB181_204.out _).trans (((cell_far (p := ⟨gb204, _, none⟩) NB181_204.out _).trans (((cell_far (p := ⟨gb204, _, none⟩) NB181_204.out _).trans (hHeld.2.2.2.2.2))))))⟩ (fun hHeld => ?_)
       clear hK K
       refine done_ (done_of HT_.out (by kernel_rfl)) ?_
       have hnb48 := NB203_180.out
       have hnc48 := NB180_203.out
       have hnb49 := NB203_181.out
       have hnc49 := NB181_203.out
       have hnb50 := NB203_182.out
       have hnc50 := NB182_203.out
       have hnb51 := NB203_204.out
       have hnc51 := NB204_203.out
       have hcz52_0 : w35.cell? ⟨gb203, 0, none⟩ = some (.slice none 0 0) := (blk_cell BK203.out 0).trans rfl
       have hcz52_1 : w35.cell? ⟨gb203, 1, none⟩ = some (.slice none 0 0) := (blk_cell BK203.out 1).trans rfl
       have hcz52_2 : w35.cell? ⟨gb203, 2, none⟩ = some (.slice none 0 0) := (blk_cell BK203.out 2).trans rfl
       have hfz52_0 := blk_frozen BK203.out 0
       have hfz52_1 := blk_frozen BK203.out 1
       have hfz52_2 := blk_frozen BK203.out 2
       have hnb53 := NB204_180.out
       have hnc53 := NB180_204.out
       have hnb54 := NB204_181.out
       have hnc54 := NB181_204.out
       have hnb55 := NB204_182.out
       have hnc55 := NB182_204.out
       have hcz56_0 : w35.cell? ⟨gb204, 0, none⟩ = some (.slice none 0 0) := (blk_cell BK204.out 0).trans rfl
       have hcz56_1 : w35.cell? ⟨gb204, 1, none⟩ = some (.slice none 0 0) := (blk_cell BK204.out 1).trans rfl
       have hcz56_2 : w35.cell? ⟨gb204, 2, none⟩ = some (.slice none 0 0) := (blk_cell BK204.out 2).trans rfl
       have hfz56_0 := blk_frozen BK204.out 0
       have hfz56_1 := blk_frozen BK204.out 1
       have hfz56_2 := blk_frozen BK204.out 2
       try go_wp2_with (first | ((with_reducible refine gate_builtin (b := .append) (xs := #[.tmp 22, .tmp 24]) rfl ?_); at_builtin; refine Kd.N_append_rows (Kd.slice 46 k46) (w0 := w) w.heap.size rfl (.tmp 22) (.tmp 24) 22 23 (.slice none 0 0) 24 rfl Tryd.underlying22 info23 rfl (by decide) (by omega) (.slice Ao36 t185.length co36) t185 t194 _ _ _ (fun k_ => (w.heap.size ≤ k_) ∧ some k_ ≠ (.slice Ao38 t188.length co38 : Value).ownBlock ∧ some k_ ≠ (.slice Ao40 t191.length co40 : Value).ownBlock ∧ some k_ ≠ (.slice Ao44 t197.length co44 : Value).ownBlock ∧ some k_ ≠ (.slice Ao46 t200.length co46 : Value).ownBlock ∧ k_ ≠ gb180 ∧ k_ ≠ gb181 ∧ k_ ≠ gb182 ∧ k_ ≠ gb203 ∧ k_ ≠ gb204) (fun k_ => ((fun k_ => (w.heap.size ≤ k_) ∧ some k_ ≠ (.slice Ao38 t188.length co38 : Value).ownBlock ∧ some k_ ≠ (.slice Ao40 t191.length co40 : Value).ownBlock ∧ some k_ ≠ (.slice Ao44 t197.length co44 : Value).ownBlock ∧ some k_ ≠ (.slice Ao46 t200.length co46 : Value).ownBlock ∧ k_ ≠ gb180 ∧ k_ ≠ gb181 ∧ k_ ≠ gb182 ∧ k_ ≠ gb203 ∧ k_ ≠ gb204)) k_ ∧ some k_ ≠ (.slice Ao36 t185.length co36 : Value).ownBlock) rfl rfl ?aO ?aR (fun _ hk => hk) ?aF ?aB ?aS ?aL ?_; (case aR => exact (by skip; exact Kd.N_F (Kd.N_mono (ok' := (fun k_ => ((fun k_ => (w.heap.size ≤ k_) ∧ some k_ ≠ (.slice Ao38 t188.length co38 : Value).ownBlock ∧ some k_ ≠ (.slice Ao40 t191.length co40 : Value).ownBlock ∧ some k_ ≠ (.slice Ao44 t197.length co44 : Value).ownBlock ∧ some k_ ≠ (.slice Ao46 t200.length co46 : Value).ownBlock ∧ k_ ≠ gb180 ∧ k_ ≠ gb181 ∧ k_ ≠ gb182 ∧ k_ ≠ gb203 ∧ k_ ≠ gb204)) k_ ∧ some k_ ≠ (.slice Ao36 t185.length co36 : Value).ownBlock)) ((Kd.N_far (p := ⟨gb204, 2, none⟩) (Kd.N_far (p := ⟨gb204, 1, none⟩) (Kd.N_far (p := ⟨gb204, 0, none⟩) (Kd.N_far (p := ⟨gb203, 2, none⟩) (Kd.N_far (p := ⟨gb203, 1, none⟩) (Kd.N_far (p := ⟨gb203, 0, none⟩) (Kd.N_mono (Kd.N_mono HO196.out (fun k_ hk => (⟨hk, hk.2.2.2.2.2.2.2.2.2.1⟩ : _ ∧ k_ ≠ gb203))) (fun k_ hk => (⟨hk, hk.1.2.2.2.2.2.2.2.2.2.2⟩ : _ ∧ k_ ≠ gb204))) (fun _ hk => hk.1.2) (.slice Ao36 t185.length co36)) (fun _ hk => hk.1.2) (.slice Ao38 t188.length co38)) (fun _ hk => hk.1.2) (.slice Ao40 t191.length co40)) (fun _ hk => hk.2) (.slice Ao42 t194.length co42)) (fun _ hk => hk.2) (.slice Ao44 t197.length co44)) (fun _ hk => hk.2) (.slice Ao46 t200.length co46))) (fun k_ hk => ⟨⟨hk.1.1.1, ⟨hk.1.1.2.2.1, ⟨hk.1.1.2.2.2.1, ⟨hk.1.1.2.2.2.2.1, ⟨hk.1.1.2.2.2.2.2.1, ⟨hk.1.1.2.2.2.2.2.2.1, ⟨hk.1.1.2.2.2.2.2.2.2.1, ⟨hk.1.1.2.2.2.2.2.2.2.2.1, ⟨hk.1.1.2.2.2.2.2.2.2.2.2.1, hk.1.1.2.2.2.2.2.2.2.2.2.2⟩⟩⟩⟩⟩⟩⟩⟩⟩, hk.1.1.2.1⟩)))); (case aB => exact (W5 HB.out GE180.out GE181.out GE182.out GE203.out GE204.out)); (case aF => exact (fun k_ hk => ⟨(Nat.le_trans (below_size (W5 HB.out GE180.out GE181.out GE182.out GE203.out GE204.out)) hk), Kd.fresh' (Kd.R_lt (by (with_reducible repeat (first | apply Kd.R_alloc | apply Kd.R_drewN | apply Kd.R_drew)); exact (Kd.R_mono (Kd.R_mono (Kd.R_far (p := ⟨gb204, 2, none⟩) (Kd.R_far (p := ⟨gb204, 1, none⟩) (Kd.R_far (p := ⟨gb204, 0, none⟩) (Kd.R_far (p := ⟨gb203, 2, none⟩) (Kd.R_far (p := ⟨gb203, 1, none⟩) (Kd.R_far (p := ⟨gb203, 0, none⟩) (Rt (Rt HO190.out BK203.out) BK204.out) (fun _ hk => hk.1.2) (.slice Ao36 t185.length co36)) (fun _ hk => hk.1.2) (.slice Ao38 t188.length co38)) (fun _ hk => hk.1.2) (.slice Ao40 t191.length co40)) (fun _ hk => hk.2) (.slice Ao42 t194.length co42)) (fun _ hk => hk.2) (.slice Ao44 t197.length co44)) (fun _ hk => hk.2) (.slice Ao46 t200.length co46)) (fun _ h_ => h_.1)) (fun _ h_ => h_.1)))) k_ hk, Kd.fresh' (Kd.R_lt (by (with_reducible repeat (first | apply Kd.R_alloc | apply Kd.R_drewN | apply Kd.R_drew)); exact (Kd.R_mono (Kd.R_mono (Kd.R_far (p := ⟨gb204, 2, none⟩) (Kd.R_far (p := ⟨gb204, 1, none⟩) (Kd.R_far (p := ⟨gb204, 0, none⟩) (Kd.R_far (p := ⟨gb203, 2, none⟩) (Kd.R_far (p := ⟨gb203, 1, none⟩) (Kd.R_far (p := ⟨gb203, 0, none⟩) (Rt (Rt HO193.out BK203.out) BK204.out) (fun _ hk => hk.1.2) (.slice Ao36 t185.length co36)) (fun _ hk => hk.1.2) (.slice Ao38 t188.length co38)) (fun _ hk => hk.1.2) (.slice Ao40 t191.length co40)) (fun _ hk => hk.2) (.slice Ao42 t194.length co42)) (fun _ hk => hk.2) (.slice Ao44 t197.length co44)) (fun _ hk => hk.2) (.slice Ao46 t200.length co46)) (fun _ h_ => h_.1)) (fun _ h_ => h_.1)))) k_ hk, Kd.fresh' (Kd.R_lt (by (with_reducible repeat (first | apply Kd.R_alloc | apply Kd.R_drewN | apply Kd.R_drew)); exact (Kd.R_mono (Kd.R_mono (Kd.R_far (p := ⟨gb204, 2, none⟩) (Kd.R_far (p := ⟨gb204, 1, none⟩) (Kd.R_far (p := ⟨gb204, 0, none⟩) (Kd.R_far (p := ⟨gb203, 2, none⟩) (Kd.R_far (p := ⟨gb203, 1, none⟩) (Kd.R_far (p := ⟨gb203, 0, none⟩) (Rt (Rt HO199.out BK203.out) BK204.out) (fun _ hk => hk.1.2) (.slice Ao36 t185.length co36)) (fun _ hk => hk.1.2) (.slice Ao38 t188.length co38)) (fun _ hk => hk.1.2) (.slice Ao40 t191.length co40)) (fun _ hk => hk.2) (.slice Ao42 t194.length co42)) (fun _ hk => hk.2) (.slice Ao44 t197.length co44)) (fun _ hk => hk.2) (.slice Ao46 t200.length co46)) (fun _ h_ => h_.1)) (fun _ h_ => h_.1)))) k_ hk, Kd.fresh' (Kd.R_lt (by (with_reducible repeat (first | apply Kd.R_alloc | apply Kd.R_drewN | apply Kd.R_drew)); exact (Kd.R_mono (Kd.R_mono (Kd.R_far (p := ⟨gb204, 2, none⟩) (Kd.R_far (p := ⟨gb204, 1, none⟩) (Kd.R_far (p := ⟨gb204, 0, none⟩) (Kd.R_far (p := ⟨gb203, 2, none⟩) (Kd.R_far (p := ⟨gb203, 1, none⟩) (Kd.R_far (p := ⟨gb203, 0, none⟩) (Rt (Rt HO202.out BK203.out) BK204.out) (fun _ hk => hk.1.2) (.slice Ao36 t185.length co36)) (fun _ hk => hk.1.2) (.slice Ao38 t188.length co38)) (fun _ hk => hk.1.2) (.slice Ao40 t191.length co40)) (fun _ hk => hk.2) (.slice Ao42 t194.length co42)) (fun _ hk => hk.2) (.slice Ao44 t197.length co44)) (fun _ hk => hk.2) (.slice Ao46 t200.length co46)) (fun _ h_ => h_.1)) (fun _ h_ => h_.1)))) k_ hk, Kd.freshB (g := gb180) (o := .cells #[.slice A0_0 l0_0.length c0_0, .slice A0_1 l0_1.length c0_1, .slice A0_2 l0_2.length c0_2] 26 (0, 0)) (by (with_reducible repeat (first | refine blk_drewN ?_ _ | refine blk_drew ?_ | refine blk_alloc ?_ _)); refine blk_far ?_ NB180_204.out _; (with_reducible repeat (first | refine blk_drewN ?_ _ | refine blk_drew ?_ | refine blk_alloc ?_ _)); refine blk_far ?_ NB180_204.out _; (with_reducible repeat (first | refine blk_drewN ?_ _ | refine blk_drew ?_ | refine blk_alloc ?_ _)); refine blk_far ?_ NB180_204.out _; (with_reducible repeat (first | refine blk_drewN ?_ _ | refine blk_drew ?_ | refine blk_alloc ?_ _)); refine blk_far ?_ NB180_203.out _; (with_reducible repeat (first | refine blk_drewN ?_ _ | refine blk_drew ?_ | refine blk_alloc ?_ _)); refine blk_far ?_ NB180_203.out _; (with_reducible repeat (first | refine blk_drewN ?_ _ | refine blk_drew ?_ | refine blk_alloc ?_ _)); refine blk_far ?_ NB180_203.out _; (with_reducible repeat (first | refine blk_drewN ?_ _ | refine blk_drew ?_ | refine blk_alloc ?_ _)); exact BK180.out) k_ hk, Kd.freshB (g := gb181) (o := .cells #[.slice A1_0 l1_0.length c1_0, .slice A1_1 l1_1.length c1_1, .slice A1_2 l1_2.length c1_2] 26 (0, 0)) (by (with_reducible repeat (first | refine blk_drewN ?_ _ | refine blk_drew ?_ | refine blk_alloc ?_ _)); refine blk_far ?_ NB181_204.out _; (with_reducible repeat (first | refine blk_drewN ?_ _ | refine blk_drew ?_ | refine blk_alloc ?_ _)); refine blk_far ?_ NB181_204.out _; (with_reducible repeat (first | refine blk_drewN ?_ _ | refine blk_drew ?_ | refine blk_alloc ?_ _)); refine blk_far ?_ NB181_204.out _; (with_reducible repeat (first | refine blk_drewN ?_ _ | refine blk_drew ?_ | refine blk_alloc ?_ _)); refine blk_far ?_ NB181_203.out _; (with_reducible repeat (first | refine blk_drewN ?_ _ | refine blk_drew ?_ | refine blk_alloc ?_ _)); refine blk_far ?_ NB181_203.out _; (with_reducible repeat (first | refine blk_drewN ?_ _ | refine blk_drew ?_ | refine blk_alloc ?_ _)); refine blk_far ?_ NB181_203.out _; (with_reducible repeat (first | refine blk_drewN ?_ _ | refine blk_drew ?_ | refine blk_alloc ?_ _)); exact BK181.out) k_ hk, Kd.freshB (g := gb182) (o := .cells #[.slice none 0 0, .slice none 0 0, .slice none 0 0] 26 (0, 0)) (by (with_reducible repeat (first | refine blk_drewN ?_ _ | refine blk_drew ?_ | refine blk_alloc ?_ _)); refine blk_far ?_ NB182_204.out _; (with_reducible repeat (first | refine blk_drewN ?_ _ | refine blk_drew ?_ | refine blk_alloc ?_ _)); refine blk_far ?_ NB182_204.out _; (with_reducible repeat (first | refine blk_drewN ?_ _ | refine blk_drew ?_ | refine blk_alloc ?_ _)); refine blk_far ?_ NB182_204.out _; (with_reducible repeat (first | refine blk_drewN ?_ _ | refine blk_drew ?_ | refine blk_alloc ?_ _)); refine blk_far ?_ NB182_203.out _; (with_reducible repeat (first | refine blk_drewN ?_ _ | refine blk_drew ?_ | refine blk_alloc ?_ _)); refine blk_far ?_ NB182_203.out _; (with_reducible repeat (first | refine blk_drewN ?_ _ | refine blk_drew ?_ | refine blk_alloc ?_ _)); refine blk_far ?_ NB182_203.out _; (with_reducible repeat (first | refine blk_drewN ?_ _ | refine blk_drew ?_ | refine blk_alloc ?_ _)); exact BK182.out) k_ hk, Kd.freshB (g := gb203) (o := .cells #[.slice Ao36 t185.length co36, .slice Ao38 t188.length co38, .slice Ao40 t191.length co40] 26 (0, 0)) (by (with_reducible repeat (first | refine blk_drewN ?_ _ | refine blk_drew ?_ | refine blk_alloc ?_ _)); refine blk_far ?_ NB203_204.out _; (with_reducible repeat (first | refine blk_drewN ?_ _ | refine blk_drew ?_ | refine blk_alloc ?_ _)); refine blk_far ?_ NB203_204.out _; (with_reducible repeat (first | refine blk_drewN ?_ _ | refine blk_drew ?_ | refine blk_alloc ?_ _)); refine blk_far ?_ NB203_204.out _; (with_reducible repeat (first | refine blk_drewN ?_ _ | refine blk_drew ?_ | refine blk_alloc ?_ _)); refine blk_put (cs := #[.slice Ao36 t185.length co36, .slice Ao38 t188.length co38, .slice none 0 0]) ?_ 2 _ rfl; (with_reducible repeat (first | refine blk_drewN ?_ _ | refine blk_drew ?_ | refine blk_alloc ?_ _)); refine blk_put (cs := #[.slice Ao36 t185.length co36, .slice none 0 0, .slice none 0 0]) ?_ 1 _ rfl; (with_reducible repeat (first | refine blk_drewN ?_ _ | refine blk_drew ?_ | refine blk_alloc ?_ _)); refine blk_put (cs := #[.slice none 0 0, .slice none 0 0, .slice none 0 0]) ?_ 0 _ rfl; (with_reducible repeat (first | refine blk_drewN ?_ _ | refine blk_drew ?_ | refine blk_alloc ?_ _)); exact BK203.out) k_ hk, Kd.freshB (g := gb204) (o := .cells #[.slice Ao42 t194.length co42, .slice Ao44 t197.length co44, .slice Ao46 t200.length co46] 26 (0, 0)) (by (with_reducible repeat (first | refine blk_drewN ?_ _ | refine blk_drew ?_ | refine blk_alloc ?_ _)); refine blk_put (cs := #[.slice Ao42 t194.length co42, .slice Ao44 t197.length co44, .slice none 0 0]) ?_ 2 _ rfl; (with_reducible repeat (first | refine blk_drewN ?_ _ | refine blk_drew ?_ | refine blk_alloc ?_ _)); refine blk_put (cs := #[.slice Ao42 t194.length co42, .slice none 0 0, .slice none 0 0]) ?_ 1 _ rfl; (with_reducible repeat (first | refine blk_drewN ?_ _ | refine blk_drew ?_ | refine blk_alloc ?_ _)); refine blk_put (cs := #[.slice none 0 0, .slice none 0 0, .slice none 0 0]) ?_ 0 _ rfl; (with_reducible repeat (first | refine blk_drewN ?_ _ | refine blk_drew ?_ | refine blk_alloc ?_ _)); refine blk_far ?_ NB204_203.out _; (with_reducible repeat (first | refine blk_drewN ?_ _ | refine blk_drew ?_ | refine blk_alloc ?_ _)); refine blk_far ?_ NB204_203.out _; (with_reducible repeat (first | refine blk_drewN ?_ _ | refine blk_drew ?_ | refine blk_alloc ?_ _)); refine blk_far ?_ NB204_203.out _; (with_reducible repeat (first | refine blk_drewN ?_ _ | refine blk_drew ?_ | refine blk_alloc ?_ _)); exact BK204.out) k_ hk⟩)); (case aO => exact (by (with_reducible repeat (first | apply Kd.N_alloc | apply Kd.N_drewN | apply Kd.N_drew)); exact Kd.N_mono (Kd.N_far (p := ⟨gb204, 2, none⟩) (Kd.N_far (p := ⟨gb204, 1, none⟩) (Kd.N_far (p := ⟨gb204, 0, none⟩) (Kd.N_far (p := ⟨gb203, 2, none⟩) (Kd.N_far (p := ⟨gb203, 1, none⟩) (Kd.N_far (p := ⟨gb203, 0, none⟩) (Kd.N_mono (Kd.N_mono HO187.out (fun k_ hk => (⟨hk, hk.2.2.2.2.2.2.2.2.2.1⟩ : _ ∧ k_ ≠ gb203))) (fun k_ hk => (⟨hk, hk.1.2.2.2.2.2.2.2.2.2.2⟩ : _ ∧ k_ ≠ gb204))) (fun _ hk => hk.1.2) (.slice Ao36 t185.length co36)) (fun _ hk => hk.1.2) (.slice Ao38 t188.length co38)) (fun _ hk => hk.1.2) (.slice Ao40 t191.length co40)) (fun _ hk => hk.2) (.slice Ao42 t194.length co42)) (fun _ hk => hk.2) (.slice Ao44 t197.length co44)) (fun _ hk => hk.2) (.slice Ao46 t200.length co46)) (fun _ hk => ⟨hk.1.1.1, ⟨hk.1.1.2.1, ⟨hk.1.1.2.2.1, ⟨hk.1.1.2.2.2.2.1, ⟨hk.1.1.2.2.2.2.2.1, ⟨hk.1.1.2.2.2.2.2.2.1, ⟨hk.1.1.2.2.2.2.2.2.2.1, ⟨hk.1.1.2.2.2.2.2.2.2.2.1, ⟨hk.1.1.2.2.2.2.2.2.2.2.2.1, hk.1.1.2.2.2.2.2.2.2.2.2.2⟩⟩⟩⟩⟩⟩⟩⟩⟩))); (case aS => exact (below_size (W5 HB.out GE180.out GE181.out GE182.out GE203.out GE204.out))); (case aL => have := LMc27.out; omega); intro v206 w57 ho hb hg hat; rw [← Ny205.out] at ho; have n0_ := Aside0.mk (blk_grown (g := gb180) (o := .cells #[.slice A0_0 l0_0.length c0_0, .slice A0_1 l0_1.length c0_1, .slice A0_2 l0_2.length c0_2] 26 (0, 0)) (by (with_reducible repeat (first | refine blk_drewN ?_ _ | refine blk_drew ?_ | refine blk_alloc ?_ _)); refine blk_far ?_ NB180_204.out _; (with_reducible repeat (first | refine blk_drewN ?_ _ | refine blk_drew ?_ | refine blk_alloc ?_ _)); refine blk_far ?_ NB180_204.out _; (with_reducible repeat (first | refine blk_drewN ?_ _ | refine blk_drew ?_ | refine blk_alloc ?_ _)); refine blk_far ?_ NB180_204.out _; (with_reducible repeat (first | refine blk_drewN ?_ _ | refine blk_drew ?_ | refine blk_alloc ?_ _)); refine blk_far ?_ NB180_203.out _; (with_reducible repeat (first | refine blk_drewN ?_ _ | refine blk_drew ?_ | refine blk_alloc ?_ _)); refine blk_far ?_ NB180_203.out _; (with_reducible repeat (first | refine blk_drewN ?_ _ | refine blk_drew ?_ | refine blk_alloc ?_ _)); refine blk_far ?_ NB180_203.out _; (with_reducible repeat (first | refine blk_drewN ?_ _ | refine blk_drew ?_ | refine blk_alloc ?_ _)); exact BK180.out) hg (Kd.N_ne HO187.out BK180.out (by decide))); have n1_ := Aside0.mk (blk_grown (g := gb181) (o := .cells #[.slice A1_0 l1_0.length c1_0, .slice A1_1 l1_1.length c1_1, .slice A1_2 l1_2.length c1_2] 26 (0, 0)) (by (with_reducible repeat (first | refine blk_drewN ?_ _ | refine blk_drew ?_ | refine blk_alloc ?_ _)); refine blk_far ?_ NB181_204.out _; (with_reducible repeat (first | refine blk_drewN ?_ _ | refine blk_drew ?_ | refine blk_alloc ?_ _)); refine blk_far ?_ NB181_204.out _; (with_reducible repeat (first | refine blk_drewN ?_ _ | refine blk_drew ?_ | refine blk_alloc ?_ _)); refine blk_far ?_ NB181_204.out _; (with_reducible repeat (first | refine blk_drewN ?_ _ | refine blk_drew ?_ | refine blk_alloc ?_ _)); refine blk_far ?_ NB181_203.out _; (with_reducible repeat (first | refine blk_drewN ?_ _ | refine blk_drew ?_ | refine blk_alloc ?_ _)); refine blk_far ?_ NB181_203.out _; (with_reducible repeat (first | refine blk_drewN ?_ _ | refine blk_drew ?_ | refine blk_alloc ?_ _)); refine blk_far ?_ NB181_203.out _; (with_reducible repeat (first | refine blk_drewN ?_ _ | refine blk_drew ?_ | refine blk_alloc ?_ _)); exact BK181.out) hg (Kd.N_ne HO187.out BK181.out (by decide))); have n2_ := Aside0.mk (blk_grown (g := gb182) (o := .cells #[.slice none 0 0, .slice none 0 0, .slice none 0 0] 26 (0, 0)) (by (with_reducible repeat (first | refine blk_drewN ?_ _ | refine blk_drew ?_ | refine blk_alloc ?_ _)); refine blk_far ?_ NB182_204.out _; (with_reducible repeat (first | refine blk_drewN ?_ _ | refine blk_drew ?_ | refine blk_alloc ?_ _)); refine blk_far ?_ NB182_204.out _; (with_reducible repeat (first | refine blk_drewN ?_ _ | refine blk_drew ?_ | refine blk_alloc ?_ _)); refine blk_far ?_ NB182_204.out _; (with_reducible repeat (first | refine blk_drewN ?_ _ | refine blk_drew ?_ | refine blk_alloc ?_ _)); refine blk_far ?_ NB182_203.out _; (with_reducible repeat (first | refine blk_drewN ?_ _ | refine blk_drew ?_ | refine blk_alloc ?_ _)); refine blk_far ?_ NB182_203.out _; (with_reducible repeat (first | refine blk_drewN ?_ _ | refine blk_drew ?_ | refine blk_alloc ?_ _)); refine blk_far ?_ NB182_203.out _; (with_reducible repeat (first | refine blk_drewN ?_ _ | refine blk_drew ?_ | refine blk_alloc ?_ _)); exact BK182.out) hg (Kd.N_ne HO187.out BK182.out (by decide))); have n3_ := Aside0.mk (Kd.R_over' (by (with_reducible repeat (first | apply Kd.R_alloc | apply Kd.R_drewN | apply Kd.R_drew)); exact (Kd.R_mono (Kd.R_mono (Kd.R_far (p := ⟨gb204, 2, none⟩) (Kd.R_far (p := ⟨gb204, 1, none⟩) (Kd.R_far (p := ⟨gb204, 0, none⟩) (Kd.R_far (p := ⟨gb203, 2, none⟩) (Kd.R_far (p := ⟨gb203, 1, none⟩) (Kd.R_far (p := ⟨gb203, 0, none⟩) (Rt (Rt HO190.out BK203.out) BK204.out) (fun _ hk => hk.1.2) (.slice Ao36 t185.length co36)) (fun _ hk => hk.1.2) (.slice Ao38 t188.length co38)) (fun _ hk => hk.1.2) (.slice Ao40 t191.length co40)) (fun _ hk => hk.2) (.slice Ao42 t194.length co42)) (fun _ hk => hk.2) (.slice Ao44 t197.length co44)) (fun _ hk => hk.2) (.slice Ao46 t200.length co46)) (fun _ h_ => h_.1)) (fun _ h_ => h_.1))) (Kd.N_typed (by (with_reducible repeat (first | apply Kd.N_alloc | apply Kd.N_drewN | apply Kd.N_drew)); exact (Kd.N_mono (Kd.N_mono (Kd.N_far (p := ⟨gb204, 2, none⟩) (Kd.N_far (p := ⟨gb204, 1, none⟩) (Kd.N_far (p := ⟨gb204, 0, none⟩) (Kd.N_far (p := ⟨gb203, 2, none⟩) (Kd.N_far (p := ⟨gb203, 1, none⟩) (Kd.N_far (p := ⟨gb203, 0, none⟩) (Kd.N_mono (Kd.N_mono HO187.out (fun k_ hk => (⟨hk, hk.2.2.2.2.2.2.2.2.2.1⟩ : _ ∧ k_ ≠ gb203))) (fun k_ hk => (⟨hk, hk.1.2.2.2.2.2.2.2.2.2.2⟩ : _ ∧ k_ ≠ gb204))) (fun _ hk => hk.1.2) (.slice Ao36 t185.length co36)) (fun _ hk => hk.1.2) (.slice Ao38 t188.length co38)) (fun _ hk => hk.1.2) (.slice Ao40 t191.length co40)) (fun _ hk => hk.2) (.slice Ao42 t194.length co42)) (fun _ hk => hk.2) (.slice Ao44 t197.length co44)) (fun _ hk => hk.2) (.slice Ao46 t200.length co46)) (fun _ h_ => h_.1)) (fun _ h_ => h_.1)))) (by decide) hg); have n4_ := Aside0.mk (Kd.R_over' (by (with_reducible repeat (first | apply Kd.R_alloc | apply Kd.R_drewN | apply Kd.R_drew)); exact (Kd.R_mono (Kd.R_mono (Kd.R_far (p := ⟨gb204, 2, none⟩) (Kd.R_far (p := ⟨gb204, 1, none⟩) (Kd.R_far (p := ⟨gb204, 0, none⟩) (Kd.R_far (p := ⟨gb203, 2, none⟩) (Kd.R_far (p := ⟨gb203, 1, none⟩) (Kd.R_far (p := ⟨gb203, 0, none⟩) (Rt (Rt HO193.out BK203.out) BK204.out) (fun _ hk => hk.1.2) (.slice Ao36 t185.length co36)) (fun _ hk => hk.1.2) (.slice Ao38 t188.length co38)) (fun _ hk => hk.1.2) (.slice Ao40 t191.length co40)) (fun _ hk => hk.2) (.slice Ao42 t194.length co42)) (fun _ hk => hk.2) (.slice Ao44 t197.length co44)) (fun _ hk => hk.2) (.slice Ao46 t200.length co46)) (fun _ h_ => h_.1)) (fun _ h_ => h_.1))) (Kd.N_typed (by (with_reducible repeat (first | apply Kd.N_alloc | apply Kd.N_drewN | apply Kd.N_drew)); exact (Kd.N_mono (Kd.N_mono (Kd.N_far (p := ⟨gb204, 2, none⟩) (Kd.N_far (p := ⟨gb204, 1, none⟩) (Kd.N_far (p := ⟨gb204, 0, none⟩) (Kd.N_far (p := ⟨gb203, 2, none⟩) (Kd.N_far (p := ⟨gb203, 1, none⟩) (Kd.N_far (p := ⟨gb203, 0, none⟩) (Kd.N_mono (Kd.N_mono HO187.out (fun k_ hk => (⟨hk, hk.2.2.2.2.2.2.2.2.2.1⟩ : _ ∧ k_ ≠ gb203))) (fun k_ hk => (⟨hk, hk.1.2.2.2.2.2.2.2.2.2.2⟩ : _ ∧ k_ ≠ gb204))) (fun _ hk => hk.1.2) (.slice Ao36 t185.length co36)) (fun _ hk => hk.1.2) (.slice Ao38 t188.length co38)) (fun _ hk => hk.1.2) (.slice Ao40 t191.length co40)) (fun _ hk => hk.2) (.slice Ao42 t194.length co42)) (fun _ hk => hk.2) (.slice Ao44 t197.length co44)) (fun _ hk => hk.2) (.slice Ao46 t200.length co46)) (fun _ h_ => h_.1)) (fun _ h_ => h_.1)))) (by decide) hg); have n5_ := Aside0.mk (Kd.N_afterv (ok := (fun k_ => (w.heap.size ≤ k_) ∧ some k_ ≠ (.slice Ao38 t188.length co38 : Value).ownBlock ∧ some k_ ≠ (.slice Ao40 t191.length co40 : Value).ownBlock ∧ some k_ ≠ (.slice Ao44 t197.length co44 : Value).ownBlock ∧ some k_ ≠ (.slice Ao46 t200.length co46 : Value).ownBlock ∧ k_ ≠ gb180 ∧ k_ ≠ gb181 ∧ k_ ≠ gb182 ∧ k_ ≠ gb203 ∧ k_ ≠ gb204)) (by (with_reducible repeat (first | apply Kd.N_alloc | apply Kd.N_drewN | apply Kd.N_drew)); exact Kd.N_mono (Kd.N_far (p := ⟨gb204, 2, none⟩) (Kd.N_far (p := ⟨gb204, 1, none⟩) (Kd.N_far (p := ⟨gb204, 0, none⟩) (Kd.N_far (p := ⟨gb203, 2, none⟩) (Kd.N_far (p := ⟨gb203, 1, none⟩) (Kd.N_far (p := ⟨gb203, 0, none⟩) (Kd.N_mono (Kd.N_mono HO196.out (fun k_ hk => (⟨hk, hk.2.2.2.2.2.2.2.2.2.1⟩ : _ ∧ k_ ≠ gb203))) (fun k_ hk => (⟨hk, hk.1.2.2.2.2.2.2.2.2.2.2⟩ : _ ∧ k_ ≠ gb204))) (fun _ hk => hk.1.2) (.slice Ao36 t185.length co36)) (fun _ hk => hk.1.2) (.slice Ao38 t188.length co38)) (fun _ hk => hk.1.2) (.slice Ao40 t191.length co40)) (fun _ hk => hk.2) (.slice Ao42 t194.length co42)) (fun _ hk => hk.2) (.slice Ao44 t197.length co44)) (fun _ hk => hk.2) (.slice Ao46 t200.length co46)) (fun _ hk => ⟨⟨hk.1.1.1, ⟨hk.1.1.2.2.1, ⟨hk.1.1.2.2.2.1, ⟨hk.1.1.2.2.2.2.1, ⟨hk.1.1.2.2.2.2.2.1, ⟨hk.1.1.2.2.2.2.2.2.1, ⟨hk.1.1.2.2.2.2.2.2.2.1, ⟨hk.1.1.2.2.2.2.2.2.2.2.1, ⟨hk.1.1.2.2.2.2.2.2.2.2.2.1, hk.1.1.2.2.2.2.2.2.2.2.2.2⟩⟩⟩⟩⟩⟩⟩⟩⟩, hk.1.1.2.1⟩)) hg hat); have n6_ := Aside0.mk (Kd.R_over' (by (with_reducible repeat (first | apply Kd.R_alloc | apply Kd.R_drewN | apply Kd.R_drew)); exact (Kd.R_mono (Kd.R_mono (Kd.R_far (p := ⟨gb204, 2, none⟩) (Kd.R_far (p := ⟨gb204, 1, none⟩) (Kd.R_far (p := ⟨gb204, 0, none⟩) (Kd.R_far (p := ⟨gb203, 2, none⟩) (Kd.R_far (p := ⟨gb203, 1, none⟩) (Kd.R_far (p := ⟨gb203, 0, none⟩) (Rt (Rt HO199.out BK203.out) BK204.out) (fun _ hk => hk.1.2) (.slice Ao36 t185.length co36)) (fun _ hk => hk.1.2) (.slice Ao38 t188.length co38)) (fun _ hk => hk.1.2) (.slice Ao40 t191.length co40)) (fun _ hk => hk.2) (.slice Ao42 t194.length co42)) (fun _ hk => hk.2) (.slice Ao44 t197.length co44)) (fun _ hk => hk.2) (.slice Ao46 t200.length co46)) (fun _ h_ => h_.1)) (fun _ h_ => h_.1))) (Kd.N_typed (by (with_reducible repeat (first | apply Kd.N_alloc | apply Kd.N_drewN | apply Kd.N_drew)); exact (Kd.N_mono (Kd.N_mono (Kd.N_far (p := ⟨gb204, 2, none⟩) (Kd.N_far (p := ⟨gb204, 1, none⟩) (Kd.N_far (p := ⟨gb204, 0, none⟩) (Kd.N_far (p := ⟨gb203, 2, none⟩) (Kd.N_far (p := ⟨gb203, 1, none⟩) (Kd.N_far (p := ⟨gb203, 0, none⟩) (Kd.N_mono (Kd.N_mono HO187.out (fun k_ hk => (⟨hk, hk.2.2.2.2.2.2.2.2.2.1⟩ : _ ∧ k_ ≠ gb203))) (fun k_ hk => (⟨hk, hk.1.2.2.2.2.2.2.2.2.2.2⟩ : _ ∧ k_ ≠ gb204))) (fun _ hk => hk.1.2) (.slice Ao36 t185.length co36)) (fun _ hk => hk.1.2) (.slice Ao38 t188.length co38)) (fun _ hk => hk.1.2) (.slice Ao40 t191.length co40)) (fun _ hk => hk.2) (.slice Ao42 t194.length co42)) (fun _ hk => hk.2) (.slice Ao44 t197.length co44)) (fun _ hk => hk.2) (.slice Ao46 t200.length co46)) (fun _ h_ => h_.1)) (fun _ h_ => h_.1)))) (by decide) hg); have n7_ := Aside0.mk (Kd.R_over' (by (with_reducible repeat (first | apply Kd.R_alloc | apply Kd.R_drewN | apply Kd.R_drew)); exact (Kd.R_mono (Kd.R_mono (Kd.R_far (p := ⟨gb204, 2, none⟩) (Kd.R_far (p := ⟨gb204, 1, none⟩) (Kd.R_far (p := ⟨gb204, 0, none⟩) (Kd.R_far (p := ⟨gb203, 2, none⟩) (Kd.R_far (p := ⟨gb203, 1, none⟩) (Kd.R_far (p := ⟨gb203, 0, none⟩) (Rt (Rt HO202.out BK203.out) BK204.out) (fun _ hk => hk.1.2) (.slice Ao36 t185.length co36)) (fun _ hk => hk.1.2) (.slice Ao38 t188.length co38)) (fun _ hk => hk.1.2) (.slice Ao40 t191.length co40)) (fun _ hk => hk.2) (.slice Ao42 t194.length co42)) (fun _ hk => hk.2) (.slice Ao44 t197.length co44)) (fun _ hk => hk.2) (.slice Ao46 t200.length co46)) (fun _ h_ => h_.1)) (fun _ h_ => h_.1))) (Kd.N_typed (by (with_reducible repeat (first | apply Kd.N_alloc | apply Kd.N_drewN | apply Kd.N_drew)); exact (Kd.N_mono (Kd.N_mono (Kd.N_far (p := ⟨gb204, 2, none⟩) (Kd.N_far (p := ⟨gb204, 1, none⟩) (Kd.N_far (p := ⟨gb204, 0, none⟩) (Kd.N_far (p := ⟨gb203, 2, none⟩) (Kd.N_far (p := ⟨gb203, 1, none⟩) (Kd.N_far (p := ⟨gb203, 0, none⟩) (Kd.N_mono (Kd.N_mono HO187.out (fun k_ hk => (⟨hk, hk.2.2.2.2.2.2.2.2.2.1⟩ : _ ∧ k_ ≠ gb203))) (fun k_ hk => (⟨hk, hk.1.2.2.2.2.2.2.2.2.2.2⟩ : _ ∧ k_ ≠ gb204))) (fun _ hk => hk.1.2) (.slice Ao36 t185.length co36)) (fun _ hk => hk.1.2) (.slice Ao38 t188.length co38)) (fun _ hk => hk.1.2) (.slice Ao40 t191.length co40)) (fun _ hk => hk.2) (.slice Ao42 t194.length co42)) (fun _ hk => hk.2) (.slice Ao44 t197.length co44)) (fun _ hk => hk.2) (.slice Ao46 t200.length co46)) (fun _ h_ => h_.1)) (fun _ h_ => h_.1)))) (by decide) hg); have n8_ := Aside0.mk (blk_grown (g := gb203) (o := .cells #[.slice Ao36 t185.length co36, .slice Ao38 t188.length co38, .slice Ao40 t191.length co40] 26 (0, 0)) (by (with_reducible repeat (first | refine blk_drewN ?_ _ | refine blk_drew ?_ | refine blk_alloc ?_ _)); refine blk_far ?_ NB203_204.out _; (with_reducible repeat (first | refine blk_drewN ?_ _ | refine blk_drew ?_ | refine blk_alloc ?_ _)); refine blk_far ?_ NB203_204.out _; (with_reducible repeat (first | refine blk_drewN ?_ _ | refine blk_drew ?_ | refine blk_alloc ?_ _)); refine blk_far ?_ NB203_204.out _; (with_reducible repeat (first | refine blk_drewN ?_ _ | refine blk_drew ?_ | refine blk_alloc ?_ _)); refine blk_put (cs := #[.slice Ao36 t185.length co36, .slice Ao38 t188.length co38, .slice none 0 0]) ?_ 2 _ rfl; (with_reducible repeat (first | refine blk_drewN ?_ _ | refine blk_drew ?_ | refine blk_alloc ?_ _)); refine blk_put (cs := #[.slice Ao36 t185.length co36, .slice none 0 0, .slice none 0 0]) ?_ 1 _ rfl; (with_reducible repeat (first | refine blk_drewN ?_ _ | refine blk_drew ?_ | refine blk_alloc ?_ _)); refine blk_put (cs := #[.slice none 0 0, .slice none 0 0, .slice none 0 0]) ?_ 0 _ rfl; (with_reducible repeat (first | refine blk_drewN ?_ _ | refine blk_drew ?_ | refine blk_alloc ?_ _)); exact BK203.out) hg (Kd.N_ne HO187.out BK203.out (by decide))); have n9_ := Aside0.mk (blk_grown (g := gb204) (o := .cells #[.slice Ao42 t194.length co42, .slice Ao44 t197.length co44, .slice Ao46 t200.length co46] 26 (0, 0)) (by (with_reducible repeat (first | refine blk_drewN ?_ _ | refine blk_drew ?_ | refine blk_alloc ?_ _)); refine blk_put (cs := #[.slice Ao42 t194.length co42, .slice Ao44 t197.length co44, .slice none 0 0]) ?_ 2 _ rfl; (with_reducible repeat (first | refine blk_drewN ?_ _ | refine blk_drew ?_ | refine blk_alloc ?_ _)); refine blk_put (cs := #[.slice Ao42 t194.length co42, .slice none 0 0, .slice none 0 0]) ?_ 1 _ rfl; (with_reducible repeat (first | refine blk_drewN ?_ _ | refine blk_drew ?_ | refine blk_alloc ?_ _)); refine blk_put (cs := #[.slice none 0 0, .slice none 0 0, .slice none 0 0]) ?_ 0 _ rfl; (with_reducible repeat (first | refine blk_drewN ?_ _ | refine blk_drew ?_ | refine blk_alloc ?_ _)); refine blk_far ?_ NB204_203.out _; (with_reducible repeat (first | refine blk_drewN ?_ _ | refine blk_drew ?_ | refine blk_alloc ?_ _)); refine blk_far ?_ NB204_203.out _; (with_reducible repeat (first | refine blk_drewN ?_ _ | refine blk_drew ?_ | refine blk_alloc ?_ _)); refine blk_far ?_ NB204_203.out _; (with_reducible repeat (first | refine blk_drewN ?_ _ | refine blk_drew ?_ | refine blk_alloc ?_ _)); exact BK204.out) hg (Kd.N_ne HO187.out BK204.out (by decide))); have n10_ := Aside0.mk (hb); have n11_ := Aside0.mk (ho); clear BK180; clear BK181; clear BK182; clear HO190; clear HO193; clear HO196; clear HO199; clear HO202; clear BK203; clear BK204; clear HB; clear HO187; have BK180 := n0_; have BK181 := n1_; have BK182 := n2_; have HO190 := n3_; have HO193 := n4_; have HO196 := n5_; have HO199 := n6_; have HO202 := n7_; have BK203 := n8_; have BK204 := n9_; have HB := n10_; have HO207 := n11_; clear n0_ n1_ n2_ n3_ n4_ n5_ n6_ n7_ n8_ n9_ n10_ n11_; clear ho hb hg hat; obtain ⟨Ao58, co58, eo58⟩ := Kd.N_slice HO207.out; subst eo58; have hcz59_0 : w57.cell? ⟨gb203, 0, none⟩ = some (.slice Ao36 t185.length co36) := (blk_cell BK203.out 0).trans rfl; have hcz59_1 : w57.cell? ⟨gb203, 1, none⟩ = some (.slice Ao38 t188.length co38) := (blk_cell BK203.out 1).trans rfl; have hcz59_2 : w57.cell? ⟨gb203, 2, none⟩ = some (.slice Ao40 t191.length co40) := (blk_cell BK203.out 2).trans rfl; have hfz59_0 := blk_frozen BK203.out 0; have hfz59_1 := blk_frozen BK203.out 1; have hfz59_2 := blk_frozen BK203.out 2; have hcz60_0 : w57.cell? ⟨gb204, 0, none⟩ = some (.slice Ao42 t194.length co42) := (blk_cell BK204.out 0).trans rfl; have hcz60_1 : w57.cell? ⟨gb204, 1, none⟩ = some (.slice Ao44 t197.length co44) := (blk_cell BK204.out 1).trans rfl; have hcz60_2 : w57.cell? ⟨gb204, 2, none⟩ = some (.slice Ao46 t200.length co46) := (blk_cell BK204.out 2).trans rfl; have hfz60_0 := blk_frozen BK204.out 0; have hfz60_1 := blk_frozen BK204.out 1; have hfz60_2 := blk_frozen BK204.out 2) | ((with_reducible refine gate_builtin (b := .append) (xs := #[.tmp 28, .tmp 30]) rfl ?_); at_builtin; refine Kd.R_append_rows k46 (w0 := w) w.heap.size rfl (.tmp 28) (.tmp 30) 23 46 (.agg #[(.string ⟨#[]⟩), (.int .i64 0), (.string ⟨#[]⟩)]) 40 rfl Tryd.underlying23 info46 rfl (by decide) (by omega) (.slice Ao38 t188.length co38) t188 t197 _ _ _ (fun k_ => (w.heap.size ≤ k_) ∧ some k_ ≠ (.slice Ao44 t197.length co44 : Value).ownBlock) (fun _ => False) rfl rfl ?aO ?aR (fun _ _ h => h) (fun _ h => h.elim) ?aF ?aB ?aS ?aL ?_; (case aR => refine (Kd.R_reads' (e := 46) (base := w.heap.size) (ok := fun k_ => ((w.heap.size ≤ k_) ∧ some k_ ≠ (.slice Ao38 t188.length co38 : Value).ownBlock)) (n := t197.length) (c := co44) ?_).2.2; exact (by (with_reducible repeat (first | apply Kd.R_alloc | apply Kd.R_drewN | apply Kd.R_drew)); exact (Kd.R_mono (Kd.R_far (p := ⟨gb203, 0, none⟩) (Rt HO199.out BK203.out) (fun _ hk => hk.2) (.slice Ao58 y205.length co58)) (fun _ h_ => h_.1)))); (case aB => exact (W5 HB.out GE180.out GE181.out GE182.out GE203.out GE204.out)); (case aF => exact (fun k_ hk => ⟨(Nat.le_trans (below_size (W5 HB.out GE180.out GE181.out GE182.out GE203.out GE204.out)) hk), Kd.fresh' (Kd.R_lt (by (with_reducible repeat (first | apply Kd.R_alloc | apply Kd.R_drewN | apply Kd.R_drew)); exact (Kd.R_mono (Kd.R_far (p := ⟨gb203, 0, none⟩) (Rt HO199.out BK203.out) (fun _ hk => hk.2) (.slice Ao58 y205.length co58)) (fun _ h_ => h_.1)))) k_ hk⟩)); (case aO => exact (by (with_reducible repeat (first | apply Kd.R_alloc | apply Kd.R_drewN | apply Kd.R_drew)); exact Kd.R_mono (Kd.R_far (p := ⟨gb203, 0, none⟩) (Rt HO190.out BK203.out) (fun _ hk => hk.2) (.slice Ao58 y205.length co58)) (fun _ hk => ⟨hk.1.1, hk.1.2⟩))); (case aS => exact (below_size (W5 HB.out GE180.out GE181.out GE182.out GE203.out GE204.out))); (case aL => have := LMc28.out; omega); intro v209 w61 ho hb hg hat; rw [← Ny208.out] at ho; have n0_ := Aside0.mk (blk_grown (g := gb180) (o := .cells #[.slice A0_0 l0_0.length c0_0, .slice A0_1 l0_1.length c0_1, .slice A0_2 l0_2.length c0_2] 26 (0, 0)) (by (with_reducible repeat (first | refine blk_drewN ?_ _ | refine blk_drew ?_ | refine blk_alloc ?_ _)); refine blk_far ?_ NB180_203.out _; (with_reducible repeat (first | refine blk_drewN ?_ _ | refine blk_drew ?_ | refine blk_alloc ?_ _)); exact BK180.out) hg (Kd.R_ne HO190.out BK180.out (by decide))); have n1_ := Aside0.mk (blk_grown (g := gb181) (o := .cells #[.slice A1_0 l1_0.length c1_0, .slice A1_1 l1_1.length c1_1, .slice A1_2 l1_2.length c1_2] 26 (0, 0)) (by (with_reducible repeat (first | refine blk_drewN ?_ _ | refine blk_drew ?_ | refine blk_alloc ?_ _)); refine blk_far ?_ NB181_203.out _; (with_reducible repeat (first | refine blk_drewN ?_ _ | refine blk_drew ?_ | refine blk_alloc ?_ _)); exact BK181.out) hg (Kd.R_ne HO190.out BK181.out (by decide))); have n2_ := Aside0.mk (blk_grown (g := gb182) (o := .cells #[.slice none 0 0, .slice none 0 0, .slice none 0 0] 26 (0, 0)) (by (with_reducible repeat (first | refine blk_drewN ?_ _ | refine blk_drew ?_ | refine blk_alloc ?_ _)); refine blk_far ?_ NB182_203.out _; (with_reducible repeat (first | refine blk_drewN ?_ _ | refine blk_drew ?_ | refine blk_alloc ?_ _)); exact BK182.out) hg (Kd.R_ne HO190.out BK182.out (by decide))); have n3_ := Aside0.mk (Kd.R_over' (by (with_reducible repeat (first | apply Kd.R_alloc | apply Kd.R_drewN | apply Kd.R_drew)); exact (Kd.R_mono (Kd.R_far (p := ⟨gb203, 0, none⟩) (Rt HO193.out BK203.out) (fun _ hk => hk.2) (.slice Ao58 y205.length co58)) (fun _ h_ => h_.1))) (Kd.R_typed (by (with_reducible repeat (first | apply Kd.R_alloc | apply Kd.R_drewN | apply Kd.R_drew)); exact (Kd.R_mono (Kd.R_far (p := ⟨gb203, 0, none⟩) (Rt HO190.out BK203.out) (fun _ hk => hk.2) (.slice Ao58 y205.length co58)) (fun _ h_ => h_.1)))) (by decide) hg); have n4_ := Aside0.mk (Kd.N_afterv (ok := (fun k_ => (w.heap.size ≤ k_) ∧ some k_ ≠ (.slice Ao40 t191.length co40 : Value).ownBlock ∧ some k_ ≠ (.slice Ao44 t197.length co44 : Value).ownBlock ∧ some k_ ≠ (.slice Ao46 t200.length co46 : Value).ownBlock ∧ some k_ ≠ (.slice Ao58 y205.length co58 : Value).ownBlock ∧ k_ ≠ gb180 ∧ k_ ≠ gb181 ∧ k_ ≠ gb182 ∧ k_ ≠ gb203 ∧ k_ ≠ gb204)) (by (with_reducible repeat (first | apply Kd.N_alloc | apply Kd.N_drewN | apply Kd.N_drew)); exact Kd.N_mono (Kd.N_far (p := ⟨gb203, 0, none⟩) (Kd.N_mono HO196.out (fun k_ hk => (⟨hk, hk.1.2.2.2.2.2.2.2.2.1⟩ : _ ∧ k_ ≠ gb203))) (fun _ hk => hk.2) (.slice Ao58 y205.length co58)) (fun _ hk => ⟨⟨hk.1.1.1, ⟨hk.1.1.2.2.1, ⟨hk.1.1.2.2.2.1, ⟨hk.1.1.2.2.2.2.1, ⟨hk.1.2, ⟨hk.1.1.2.2.2.2.2.1, ⟨hk.1.1.2.2.2.2.2.2.1, ⟨hk.1.1.2.2.2.2.2.2.2.1, ⟨hk.1.1.2.2.2.2.2.2.2.2.1, hk.1.1.2.2.2.2.2.2.2.2.2⟩⟩⟩⟩⟩⟩⟩⟩⟩, hk.1.1.2.1⟩)) hg hat); have n5_ := Aside0.mk (Kd.R_after (ok := (fun k_ => (w.heap.size ≤ k_))) (by (with_reducible repeat (first | apply Kd.R_alloc | apply Kd.R_drewN | apply Kd.R_drew)); exact Kd.R_mono (Kd.R_far (p := ⟨gb203, 0, none⟩) (Rt HO199.out BK203.out) (fun _ hk => hk.2) (.slice Ao58 y205.length co58)) (fun _ hk => ⟨hk.1.1, hk.1.2⟩)) hg hat); have n6_ := Aside0.mk (Kd.R_over' (by (with_reducible repeat (first | apply Kd.R_alloc | apply Kd.R_drewN | apply Kd.R_drew)); exact (Kd.R_mono (Kd.R_far (p := ⟨gb203, 0, none⟩) (Rt HO202.out BK203.out) (fun _ hk => hk.2) (.slice Ao58 y205.length co58)) (fun _ h_ => h_.1))) (Kd.R_typed (by (with_reducible repeat (first | apply Kd.R_alloc | apply Kd.R_drewN | apply Kd.R_drew)); exact (Kd.R_mono (Kd.R_far (p := ⟨gb203, 0, none⟩) (Rt HO190.out BK203.out) (fun _ hk => hk.2) (.slice Ao58 y205.length co58)) (fun _ h_ => h_.1)))) (by decide) hg); have n7_ := Aside0.mk (blk_grown (g := gb203) (o := .cells #[.slice Ao58 y205.length co58, .slice Ao38 t188.length co38, .slice Ao40 t191.length co40] 26 (0, 0)) (by (with_reducible repeat (first | refine blk_drewN ?_ _ | refine blk_drew ?_ | refine blk_alloc ?_ _)); refine blk_put (cs := #[.slice Ao36 t185.length co36, .slice Ao38 t188.length co38, .slice Ao40 t191.length co40]) ?_ 0 _ rfl; (with_reducible repeat (first | refine blk_drewN ?_ _ | refine blk_drew ?_ | refine blk_alloc ?_ _)); exact BK203.out) hg (Kd.R_ne HO190.out BK203.out (by decide))); have n8_ := Aside0.mk (blk_grown (g := gb204) (o := .cells #[.slice Ao42 t194.length co42, .slice Ao44 t197.length co44, .slice Ao46 t200.length co46] 26 (0, 0)) (by (with_reducible repeat (first | refine blk_drewN ?_ _ | refine blk_drew ?_ | refine blk_alloc ?_ _)); refine blk_far ?_ NB204_203.out _; (with_reducible repeat (first | refine blk_drewN ?_ _ | refine blk_drew ?_ | refine blk_alloc ?_ _)); exact BK204.out) hg (Kd.R_ne HO190.out BK204.out (by decide))); have n9_ := Aside0.mk (Kd.N_afterv (ok := (fun k_ => (w.heap.size ≤ k_) ∧ some k_ ≠ (.slice Ao40 t191.length co40 : Value).ownBlock ∧ some k_ ≠ (.slice Ao44 t197.length co44 : Value).ownBlock ∧ some k_ ≠ (.slice Ao46 t200.length co46 : Value).ownBlock ∧ k_ ≠ gb180 ∧ k_ ≠ gb181 ∧ k_ ≠ gb182 ∧ k_ ≠ gb203 ∧ k_ ≠ gb204)) (by (with_reducible repeat (first | apply Kd.N_alloc | apply Kd.N_drewN | apply Kd.N_drew)); exact Kd.N_mono (Kd.N_far (p := ⟨gb203, 0, none⟩) (Kd.N_mono HO207.out (fun k_ hk => (⟨hk, hk.2.2.2.2.2.2.2.2.1⟩ : _ ∧ k_ ≠ gb203))) (fun _ hk => hk.2) (.slice Ao58 y205.length co58)) (fun _ hk => ⟨⟨hk.1.1, ⟨hk.1.2.2.1, ⟨hk.1.2.2.2.1, ⟨hk.1.2.2.2.2.1, ⟨hk.1.2.2.2.2.2.1, ⟨hk.1.2.2.2.2.2.2.1, ⟨hk.1.2.2.2.2.2.2.2.1, ⟨hk.1.2.2.2.2.2.2.2.2.1, hk.1.2.2.2.2.2.2.2.2.2⟩⟩⟩⟩⟩⟩⟩⟩, hk.1.2.1⟩)) hg hat); have n10_ := Aside0.mk (hb); have n11_ := Aside0.mk (ho); clear BK180; clear BK181; clear BK182; clear HO193; clear HO196; clear HO199; clear HO202; clear BK203; clear BK204; clear HO207; clear HB; clear HO190; have BK180 := n0_; have BK181 := n1_; have BK182 := n2_; have HO193 := n3_; have HO196 := n4_; have HO199 := n5_; have HO202 := n6_; have BK203 := n7_; have BK204 := n8_; have HO207 := n9_; have HB := n10_; have HO210 := n11_; clear n0_ n1_ n2_ n3_ n4_ n5_ n6_ n7_ n8_ n9_ n10_ n11_; clear ho hb hg hat; obtain ⟨Ao62, co62, eo62⟩ := Kd.R_slice HO210.out; subst eo62; have hcz63_0 : w61.cell? ⟨gb203, 0, none⟩ = some (.slice Ao58 y205.length co58) := (blk_cell BK203.out 0).trans rfl; have hcz63_1 : w61.cell? ⟨gb203, 1, none⟩ = some (.slice Ao38 t188.length co38) := (blk_cell BK203.out 1).trans rfl; have hcz63_2 : w61.cell? ⟨gb203, 2, none⟩ = some (.slice Ao40 t191.length co40) := (blk_cell BK203.out 2).trans rfl; have hfz63_0 := blk_frozen BK203.out 0; have hfz63_1 := blk_frozen BK203.out 1; have hfz63_2 := blk_frozen BK203.out 2; have hcz64_0 : w61.cell? ⟨gb204, 0, none⟩ = some (.slice Ao42 t194.length co42) := (blk_cell BK204.out 0).trans rfl; have hcz64_1 : w61.cell? ⟨gb204, 1, none⟩ = some (.slice Ao44 t197.length co44) := (blk_cell BK204.out 1).trans rfl; have hcz64_2 : w61.cell? ⟨gb204, 2, none⟩ = some (.slice Ao46 t200.length co46) := (blk_cell BK204.out 2).trans rfl; have hfz64_0 := blk_frozen BK204.out 0; have hfz64_1 := blk_frozen BK204.out 1; have hfz64_2 := blk_frozen BK204.out 2) | ((with_reducible refine gate_builtin (b := .append) (xs := #[.tmp 34, .tmp 36]) rfl ?_); at_builtin; refine Kd.R_append_rows k48 (w0 := w) w.heap.size rfl (.tmp 34) (.tmp 36) 24 48 (.agg #[(.bool false), (.string ⟨#[]⟩), (.int .i64 0), (.string ⟨#[]⟩)]) 48 rfl Tryd.underlying24 info48 rfl (by decide) (by omega) (.slice Ao40 t191.length co40) t191 t200 _ _ _ (fun k_ => (w.heap.size ≤ k_) ∧ some k_ ≠ (.slice Ao46 t200.length co46 : Value).ownBlock) (fun _ => False) rfl rfl ?aO ?aR (fun _ _ h => h) (fun _ h => h.elim) ?aF ?aB ?aS ?aL ?_; (case aR => refine (Kd.R_reads' (e := 48) (base := w.heap.size) (ok := fun k_ => ((w.heap.size ≤ k_) ∧ some k_ ≠ (.slice Ao40 t191.length co40 : Value).ownBlock)) (n := t200.length) (c := co46) ?_).2.2; exact (by (with_reducible repeat (first | apply Kd.R_alloc | apply Kd.R_drewN | apply Kd.R_drew)); exact (Kd.R_mono (Kd.R_far (p := ⟨gb203, 1, none⟩) (Rt HO202.out BK203.out) (fun _ hk => hk.2) (.slice Ao62 y208.length co62)) (fun _ h_ => h_.1)))); (case aB => exact (W5 HB.out GE180.out GE181.out GE182.out GE203.out GE204.out)); (case aF => exact (fun k_ hk => ⟨(Nat.le_trans (below_size (W5 HB.out GE180.out GE181.out GE182.out GE203.out GE204.out)) hk), Kd.fresh' (Kd.R_lt (by (with_reducible repeat (first | apply Kd.R_alloc | apply Kd.R_drewN | apply Kd.R_drew)); exact (Kd.R_mono (Kd.R_far (p := ⟨gb203, 1, none⟩) (Rt HO202.out BK203.out) (fun _ hk => hk.2) (.slice Ao62 y208.length co62)) (fun _ h_ => h_.1)))) k_ hk⟩)); (case aO => exact (by (with_reducible repeat (first | apply Kd.R_alloc | apply Kd.R_drewN | apply Kd.R_drew)); exact Kd.R_mono (Kd.R_far (p := ⟨gb203, 1, none⟩) (Rt HO193.out BK203.out) (fun _ hk => hk.2) (.slice Ao62 y208.length co62)) (fun _ hk => ⟨hk.1.1, hk.1.2⟩))); (case aS => exact (below_size (W5 HB.out GE180.out GE181.out GE182.out GE203.out GE204.out))); (case aL => have := LMc29.out; omega); intro v212 w65 ho hb hg hat; rw [← Ny211.out] at ho; have n0_ := Aside0.mk (blk_grown (g := gb180) (o := .cells #[.slice A0_0 l0_0.length c0_0, .slice A0_1 l0_1.length c0_1, .slice A0_2 l0_2.length c0_2] 26 (0, 0)) (by (with_reducible repeat (first | refine blk_drewN ?_ _ | refine blk_drew ?_ | refine blk_alloc ?_ _)); refine blk_far ?_ NB180_203.out _; (with_reducible repeat (first | refine blk_drewN ?_ _ | refine blk_drew ?_ | refine blk_alloc ?_ _)); exact BK180.out) hg (Kd.R_ne HO193.out BK180.out (by decide))); have n1_ := Aside0.mk (blk_grown (g := gb181) (o := .cells #[.slice A1_0 l1_0.length c1_0, .slice A1_1 l1_1.length c1_1, .slice A1_2 l1_2.length c1_2] 26 (0, 0)) (by (with_reducible repeat (first | refine blk_drewN ?_ _ | refine blk_drew ?_ | refine blk_alloc ?_ _)); refine blk_far ?_ NB181_203.out _; (with_reducible repeat (first | refine blk_drewN ?_ _ | refine blk_drew ?_ | refine blk_alloc ?_ _)); exact BK181.out) hg (Kd.R_ne HO193.out BK181.out (by decide))); have n2_ := Aside0.mk (blk_grown (g := gb182) (o := .cells #[.slice none 0 0, .slice none 0 0, .slice none 0 0] 26 (0, 0)) (by (with_reducible repeat (first | refine blk_drewN ?_ _ | refine blk_drew ?_ | refine blk_alloc ?_ _)); refine blk_far ?_ NB182_203.out _; (with_reducible repeat (first | refine blk_drewN ?_ _ | refine blk_drew ?_ | refine blk_alloc ?_ _)); exact BK182.out) hg (Kd.R_ne HO193.out BK182.out (by decide))); have n3_ := Aside0.mk (Kd.N_afterv (ok := (fun k_ => (w.heap.size ≤ k_) ∧ some k_ ≠ (.slice Ao44 t197.length co44 : Value).ownBlock ∧ some k_ ≠ (.slice Ao46 t200.length co46 : Value).ownBlock ∧ some k_ ≠ (.slice Ao58 y205.length co58 : Value).ownBlock ∧ some k_ ≠ (.slice Ao62 y208.length co62 : Value).ownBlock ∧ k_ ≠ gb180 ∧ k_ ≠ gb181 ∧ k_ ≠ gb182 ∧ k_ ≠ gb203 ∧ k_ ≠ gb204)) (by (with_reducible repeat (first | apply Kd.N_alloc | apply Kd.N_drewN | apply Kd.N_drew)); exact Kd.N_mono (Kd.N_far (p := ⟨gb203, 1, none⟩) (Kd.N_mono HO196.out (fun k_ hk => (⟨hk, hk.1.2.2.2.2.2.2.2.2.1⟩ : _ ∧ k_ ≠ gb203))) (fun _ hk => hk.2) (.slice Ao62 y208.length co62)) (fun _ hk => ⟨⟨hk.1.1.1, ⟨hk.1.1.2.2.1, ⟨hk.1.1.2.2.2.1, ⟨hk.1.1.2.2.2.2.1, ⟨hk.1.2, ⟨hk.1.1.2.2.2.2.2.1, ⟨hk.1.1.2.2.2.2.2.2.1, ⟨hk.1.1.2.2.2.2.2.2.2.1, ⟨hk.1.1.2.2.2.2.2.2.2.2.1, hk.1.1.2.2.2.2.2.2.2.2.2⟩⟩⟩⟩⟩⟩⟩⟩⟩, hk.1.1.2.1⟩)) hg hat); have n4_ := Aside0.mk (Kd.R_over' (by (with_reducible repeat (first | apply Kd.R_alloc | apply Kd.R_drewN | apply Kd.R_drew)); exact (Kd.R_mono (Kd.R_far (p := ⟨gb203, 1, none⟩) (Rt HO199.out BK203.out) (fun _ hk => hk.2) (.slice Ao62 y208.length co62)) (fun _ h_ => h_.1))) (Kd.R_typed (by (with_reducible repeat (first | apply Kd.R_alloc | apply Kd.R_drewN | apply Kd.R_drew)); exact (Kd.R_mono (Kd.R_far (p := ⟨gb203, 1, none⟩) (Rt HO193.out BK203.out) (fun _ hk => hk.2) (.slice Ao62 y208.length co62)) (fun _ h_ => h_.1)))) (by decide) hg); have n5_ := Aside0.mk (Kd.R_after (ok := (fun k_ => (w.heap.size ≤ k_))) (by (with_reducible repeat (first | apply Kd.R_alloc | apply Kd.R_drewN | apply Kd.R_drew)); exact Kd.R_mono (Kd.R_far (p := ⟨gb203, 1, none⟩) (Rt HO202.out BK203.out) (fun _ hk => hk.2) (.slice Ao62 y208.length co62)) (fun _ hk => ⟨hk.1.1, hk.1.2⟩)) hg hat); have n6_ := Aside0.mk (blk_grown (g := gb203) (o := .cells #[.slice Ao58 y205.length co58, .slice Ao62 y208.length co62, .slice Ao40 t191.length co40] 26 (0, 0)) (by (with_reducible repeat (first | refine blk_drewN ?_ _ | refine blk_drew ?_ | refine blk_alloc ?_ _)); refine blk_put (cs := #[.slice Ao58 y205.length co58, .slice Ao38 t188.length co38, .slice Ao40 t191.length co40]) ?_ 1 _ rfl; (with_reducible repeat (first | refine blk_drewN ?_ _ | refine blk_drew ?_ | refine blk_alloc ?_ _)); exact BK203.out) hg (Kd.R_ne HO193.out BK203.out (by decide))); have n7_ := Aside0.mk (blk_grown (g := gb204) (o := .cells #[.slice Ao42 t194.length co42, .slice Ao44 t197.length co44, .slice Ao46 t200.length co46] 26 (0, 0)) (by (with_reducible repeat (first | refine blk_drewN ?_ _ | refine blk_drew ?_ | refine blk_alloc ?_ _)); refine blk_far ?_ NB204_203.out _; (with_reducible repeat (first | refine blk_drewN ?_ _ | refine blk_drew ?_ | refine blk_alloc ?_ _)); exact BK204.out) hg (Kd.R_ne HO193.out BK204.out (by decide))); have n8_ := Aside0.mk (Kd.N_afterv (ok := (fun k_ => (w.heap.size ≤ k_) ∧ some k_ ≠ (.slice Ao44 t197.length co44 : Value).ownBlock ∧ some k_ ≠ (.slice Ao46 t200.length co46 : Value).ownBlock ∧ some k_ ≠ (.slice Ao62 y208.length co62 : Value).ownBlock ∧ k_ ≠ gb180 ∧ k_ ≠ gb181 ∧ k_ ≠ gb182 ∧ k_ ≠ gb203 ∧ k_ ≠ gb204)) (by (with_reducible repeat (first | apply Kd.N_alloc | apply Kd.N_drewN | apply Kd.N_drew)); exact Kd.N_mono (Kd.N_far (p := ⟨gb203, 1, none⟩) (Kd.N_mono HO207.out (fun k_ hk => (⟨hk, hk.1.2.2.2.2.2.2.2.1⟩ : _ ∧ k_ ≠ gb203))) (fun _ hk => hk.2) (.slice Ao62 y208.length co62)) (fun _ hk => ⟨⟨hk.1.1.1, ⟨hk.1.1.2.2.1, ⟨hk.1.1.2.2.2.1, ⟨hk.1.2, ⟨hk.1.1.2.2.2.2.1, ⟨hk.1.1.2.2.2.2.2.1, ⟨hk.1.1.2.2.2.2.2.2.1, ⟨hk.1.1.2.2.2.2.2.2.2.1, hk.1.1.2.2.2.2.2.2.2.2⟩⟩⟩⟩⟩⟩⟩⟩, hk.1.1.2.1⟩)) hg hat); have n9_ := Aside0.mk (Kd.R_over' (by (with_reducible repeat (first | apply Kd.R_alloc | apply Kd.R_drewN | apply Kd.R_drew)); exact (Kd.R_mono (Kd.R_far (p := ⟨gb203, 1, none⟩) (Rt HO210.out BK203.out) (fun _ hk => hk.2) (.slice Ao62 y208.length co62)) (fun _ h_ => h_.1))) (Kd.R_typed (by (with_reducible repeat (first | apply Kd.R_alloc | apply Kd.R_drewN | apply Kd.R_drew)); exact (Kd.R_mono (Kd.R_far (p := ⟨gb203, 1, none⟩) (Rt HO193.out BK203.out) (fun _ hk => hk.2) (.slice Ao62 y208.length co62)) (fun _ h_ => h_.1)))) (by decide) hg); have n10_ := Aside0.mk (hb); have n11_ := Aside0.mk (ho); clear BK180; clear BK181; clear BK182; clear HO196; clear HO199; clear HO202; clear BK203; clear BK204; clear HO207; clear HO210; clear HB; clear HO193; have BK180 := n0_; have BK181 := n1_; have BK182 := n2_; have HO196 := n3_; have HO199 := n4_; have HO202 := n5_; have BK203 := n6_; have BK204 := n7_; have HO207 := n8_; have HO210 := n9_; have HB := n10_; have HO213 := n11_; clear n0_ n1_ n2_ n3_ n4_ n5_ n6_ n7_ n8_ n9_ n10_ n11_; clear ho hb hg hat; obtain ⟨Ao66, co66, eo66⟩ := Kd.R_slice HO213.out; subst eo66; have hcz67_0 : w65.cell? ⟨gb203, 0, none⟩ = some (.slice Ao58 y205.length co58) := (blk_cell BK203.out 0).trans rfl; have hcz67_1 : w65.cell? ⟨gb203, 1, none⟩ = some (.slice Ao62 y208.length co62) := (blk_cell BK203.out 1).trans rfl; have hcz67_2 : w65.cell? ⟨gb203, 2, none⟩ = some (.slice Ao40 t191.length co40) := (blk_cell BK203.out 2).trans rfl; have hfz67_0 := blk_frozen BK203.out 0; have hfz67_1 := blk_frozen BK203.out 1; have hfz67_2 := blk_frozen BK203.out 2; have hnb68 := NB182_180.out; have hnc68 := NB180_182.out; have hnb69 := NB182_181.out; have hnc69 := NB181_182.out; have hcz70_0 : w65.cell? ⟨gb182, 0, none⟩ = some (.slice none 0 0) := (blk_cell BK182.out 0).trans rfl; have hcz70_1 : w65.cell? ⟨gb182, 1, none⟩ = some (.slice none 0 0) := (blk_cell BK182.out 1).trans rfl; have hcz70_2 : w65.cell? ⟨gb182, 2, none⟩ = some (.slice none 0 0) := (blk_cell BK182.out 2).trans rfl; have hfz70_0 := blk_frozen BK182.out 0; have hfz70_1 := blk_frozen BK182.out 1; have hfz70_2 := blk_frozen BK182.out 2))
       refine bodyPost_ret (results_ct rfl _ _ gb182 26 #[.slice Ao58 y205.length co58, .slice Ao62 y208.length co62, .slice Ao66 y211.length co66] (0, 0) _ rfl (by (with_reducible repeat (first | refine blk_drewN ?_ _ | refine blk_drew ?_ | refine blk_alloc ?_ _)); refine blk_put (cs := #[.slice Ao58 y205.length co58, .slice Ao62 y208.length co62, .slice none 0 0]) ?_ 2 _ rfl; (with_reducible repeat (first | refine blk_drewN ?_ _ | refine blk_drew ?_ | refine blk_alloc ?_ _)); refine blk_put (cs := #[.slice Ao58 y205.length co58, .slice none 0 0, .slice none 0 0]) ?_ 1 _ rfl; (with_reducible repeat (first | refine blk_drewN ?_ _ | refine blk_drew ?_ | refine blk_alloc ?_ _)); refine blk_put (cs := #[.slice none 0 0, .slice none 0 0, .slice none 0 0]) ?_ 0 _ rfl; (with_reducible repeat (first | refine blk_drewN ?_ _ | refine blk_drew ?_ | refine blk_alloc ?_ _)); refine blk_far ?_ NB182_203.out _; (with_reducible repeat (first | refine blk_drewN ?_ _ | refine blk_drew ?_ | refine blk_alloc ?_ _)); exact BK182.out) Tryd.underlying26 rfl (by kernel_rfl)) rfl ?_
       exact ⟨_, _, _, by first | rfl | (simp [errW_none, errW_some] <;> rfl) | (simp [*, errW_none, errW_some] <;> rfl) | (simp [errW_none, errW_some, Go.Proofs.YtmocooihkobdjaaDoor.listNe]; done), by (with_reducible repeat (first | apply Kd.N_alloc | apply Kd.N_drewN | apply Kd.N_drew)); exact Kd.N_mono (Kd.N_far (p := ⟨gb182, 2, none⟩) (Kd.N_far (p := ⟨gb182, 1, none⟩) (Kd.N_far (p := ⟨gb182, 0, none⟩) (Kd.N_far (p := ⟨gb203, 2, none⟩) (Kd.N_mono (Kd.N_mono HO207.out (fun k_ hk => (⟨hk, hk.1.2.2.2.2.2.2.2.1⟩ : _ ∧ k_ ≠ gb203))) (fun k_ hk => (⟨hk, hk.1.1.2.2.2.2.2.2.1⟩ : _ ∧ k_ ≠ gb182))) (fun _ hk => hk.1.2) (.slice Ao66 y211.length co66)) (fun _ hk => hk.2) (.slice Ao58 y205.length co58)) (fun _ hk => hk.2) (.slice Ao62 y208.length co62)) (fun _ hk => hk.2) (.slice Ao66 y211.length co66)) (fun _ hk => ⟨hk.1.1.1.1, ⟨hk.1.1.1.2.2.2.1, hk.1.1.2⟩⟩), by (with_reducible repeat (first | apply Kd.R_alloc | apply Kd.R_drewN | apply Kd.R_drew)); exact Kd.R_mono (Kd.R_far (p := ⟨gb182, 2, none⟩) (Kd.R_far (p := ⟨gb182, 1, none⟩) (Kd.R_far (p := ⟨gb182, 0, none⟩) (Kd.R_far (p := ⟨gb203, 2, none⟩) (Rt (Rt HO210.out BK203.out) BK182.out) (fun _ hk => hk.1.2) (.slice Ao66 y211.length co66)) (fun _ hk => hk.2) (.slice Ao58 y205.length co58)) (fun _ hk => hk.2) (.slice Ao62 y208.length co62)) (fun _ hk => hk.2) (.slice Ao66 y211.length co66)) (fun _ hk => hk.1.1.1), by (with_reducible repeat (first | apply Kd.R_alloc | apply Kd.R_drewN | apply Kd.R_drew)); exact Kd.R_mono (Kd.R_far (p := ⟨gb182, 2, none⟩) (Kd.R_far (p := ⟨gb182, 1, none⟩) (Kd.R_far (p := ⟨gb182, 0, none⟩) (Kd.R_far (p := ⟨gb203, 2, none⟩) (Rt (Rt HO213.out BK203.out) BK182.out) (fun _ hk => hk.1.2) (.slice Ao66 y211.length co66)) (fun _ hk => hk.2) (.slice Ao58 y205.length co58)) (fun _ hk => hk.2) (.slice Ao62 y208.length co62)) (fun _ hk => hk.2) (.slice Ao66 y211.length co66)) (fun _ hk => hk.1.1.1), by repeat (first | (with_reducible first | exact HB.out | apply below_alloc | apply pw_below_drewN | apply below_drew1 | refine below_set ?_ GE180.out | refine below_set ?_ GE181.out | refine below_set ?_ GE182.out | refine below_set ?_ GE203.out | refine below_set ?_ GE204.out) | exact HB.out)⟩
      ·rw [if_neg c29] at H
       exact absurd H (by simp)
     ·rw [if_neg c28] at H
      exact absurd H (by simp)
    ·rw [if_neg c27] at H
     exact absurd H (by simp)
end Go.Proofs.YtmocooihkobdjaaDoor.E
end
