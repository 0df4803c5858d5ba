/- A part of the proof: the texts of this claim, packed by a program of this session (wip/pack.py). -/
import Derived.Test.YtmocooihkobdjaaDoorQk1
import Derived.Test.YtmocooihkobdjaaDoorQk2
import Derived.Test.YtmocooihkobdjaaDoorQk3
section
namespace Go.Proofs.YtmocooihkobdjaaDoor.Q
open Go.RowKit Go.Proofs.YtmocooihkobdjaaDoorW.PrintWords Go.Proofs.YtmocooihkobdjaaDoorW.PrintLast Go.Proofs.YtmocooihkobdjaaDoorW.PrintMore
attribute [local go_sem] max2_int min2_int max_two min_two max_three min_three max_four min_four
set_option linter.unusedVariables false
set_option linter.unusedSimpArgs false
mutual
def depotref22_one.j0 : Nat → ByteArray → Int → Bool → ByteArray → Int → ByteArray → Option (ByteArray × Int × ByteArray × Int × Int)
 | 0, _, _, _, _, _, _ => none
 | k + 1, x0, x1, x41, x195000, x195001, x195002 => if x41 = true then (some (x195000, x195001, x195002, 0, x1)) else ((depotref22_behind.f k x0 (wrap64 (x1 + 1))).bind fun t197 => ((depotref22_sign.f k x0 t197).bind fun t198 => (depotref22_one.l0 k x0 t197 t198 1 x195000 x195001 x195002)))
def depotref22_one.l0 : Nat → ByteArray → Int → Int → Int → ByteArray → Int → ByteArray → Option (ByteArray × Int × ByteArray × Int × Int)
 | 0, _, _, _, _, _, _, _ => none
 | k + 1, x0, x1, x7, x9, x195000, x195001, x195002 => if x9 ≤ 5 then ((depotref22_Sign.f x9).bind fun t199 => (if 0 ≤ x1 then (if x1 ≤ x7 then (if x7 ≤ (x0.size : Int) then (if t199.toList = (x0.extract (x1 : Int).toNat (x7 : Int).toNat).toList then (depotref22_one.l0 k x0 x1 x7 (wrap64 (x9 + 1)) x195000 x9 x195002) else (depotref22_one.l0 k x0 x1 x7 (wrap64 (x9 + 1)) x195000 x195001 x195002)) else (none)) else (none)) else (none))) else (if x195001 = 0 then (some ((⟨#[]⟩ : ByteArray), 0, (⟨#[]⟩ : ByteArray), 220, x1)) else ((depotref22_behind.f k x0 x7).bind fun t200 => ((depotref22_word.f k x0 t200).bind fun t201 => (if t201 = t200 then (some ((⟨#[]⟩ : ByteArray), 0, (⟨#[]⟩ : ByteArray), 220, t200)) else (if 0 ≤ t200 then (if t200 ≤ t201 then (if t201 ≤ (x0.size : Int) then ((depotref20_Legal.f k (x0.extract (t200 : Int).toNat (t201 : Int).toNat)).bind fun t202 => (if t202 = true then ((depotref22_behind.f k x0 t201).bind fun t203 => (if t203 = (x0.size : Int) then (some ((⟨#[]⟩ : ByteArray), 0, (⟨#[]⟩ : ByteArray), 220, t203)) else (if 0 ≤ t203 then (if t203 < (x0.size : Int) then (if (bt x0 t203) = 41 then ((depotref22_behind.f k x0 (wrap64 (t203 + 1))).bind fun t204 => (some (x195000, x195001, x0.extract (t200 : Int).toNat (t201 : Int).toNat, 0, t204))) else (some ((⟨#[]⟩ : ByteArray), 0, (⟨#[]⟩ : ByteArray), 220, t203))) else (none)) else (none)))) else (some ((⟨#[]⟩ : ByteArray), 0, (⟨#[]⟩ : ByteArray), 200, t200)))) else (none)) else (none)) else (none))))))
end
def depotref22_one.f (k : Nat) (a0 : ByteArray) (a1 : Int) : Option (ByteArray × Int × ByteArray × Int × Int) := (depotref22_word.f k a0 a1).bind fun t193 => (if t193 = a1 then (some ((⟨#[]⟩ : ByteArray), 0, (⟨#[]⟩ : ByteArray), 220, a1)) else (if 0 ≤ a1 then (if a1 ≤ t193 then (if t193 ≤ (a0.size : Int) then ((depotref22_Name.f k (a0.extract (a1 : Int).toNat (t193 : Int).toNat)).bind fun t195 => (if t195 = true then ((depotref22_behind.f k a0 t193).bind fun t196 => (if t196 = (a0.size : Int) then (depotref22_one.j0 k a0 t196 true (a0.extract (a1 : Int).toNat (t193 : Int).toNat) 0 (⟨#[]⟩ : ByteArray)) else (if 0 ≤ t196 then (if t196 < (a0.size : Int) then (depotref22_one.j0 k a0 t196 ((bt a0 t196) != 40) (a0.extract (a1 : Int).toNat (t193 : Int).toNat) 0 (⟨#[]⟩ : ByteArray)) else (none)) else (none)))) else (some ((⟨#[]⟩ : ByteArray), 0, (⟨#[]⟩ : ByteArray), 230, a1)))) else (none)) else (none)) else (none)))
theorem depotref22_one.mono_l : ∀ k, (∀ y0 y1 y2 y3 y4 y5, LeO (depotref22_one.j0 k y0 y1 y2 y3 y4 y5) (depotref22_one.j0 (k + 1) y0 y1 y2 y3 y4 y5)) ∧ (∀ y0 y1 y2 y3 y4 y5 y6, LeO (depotref22_one.l0 k y0 y1 y2 y3 y4 y5 y6) (depotref22_one.l0 (k + 1) y0 y1 y2 y3 y4 y5 y6))
 | 0 => ⟨fun _ _ _ _ _ _ r h => by simp [depotref22_one.j0] at h, fun _ _ _ _ _ _ _ r h => by simp [depotref22_one.l0] at h⟩
 | k + 1 => by
  obtain ⟨ih0, ih1⟩ := depotref22_one.mono_l k
  refine ⟨?_, ?_⟩
  ·intro y0 y1 y2 y3 y4 y5
   unfold depotref22_one.j0
   repeat' first
   | (with_reducible exact ih0 _ _ _ _ _ _)
   | (with_reducible exact ih1 _ _ _ _ _ _ _)
   | (with_reducible exact depotref20_Legal.mono _ _)
   | (with_reducible exact depotref22_Name.mono _ _)
   | (with_reducible exact depotref22_behind.mono _ _ _)
   | (with_reducible exact depotref22_sign.mono _ _ _)
   | (with_reducible exact depotref22_word.mono _ _ _)
   | (with_reducible exact LeO.refl _)
   | (with_reducible exact LeO.none _)
   | (with_reducible refine LeO.ite ?_ ?_)
   | (with_reducible refine LeO.bind ?_ (fun _ => ?_))
   | exact ih0 _ _ _ _ _ _
   | exact ih1 _ _ _ _ _ _ _
   | exact depotref20_Legal.mono _ _
   | exact depotref22_Name.mono _ _
   | exact depotref22_behind.mono _ _ _
   | exact depotref22_sign.mono _ _ _
   | exact depotref22_word.mono _ _ _
   | exact LeO.none _
   | refine LeO.ite ?_ ?_
   | refine LeO.bind ?_ (fun _ => ?_)
  ·intro y0 y1 y2 y3 y4 y5 y6
   unfold depotref22_one.l0
   repeat' first
   | (with_reducible exact ih0 _ _ _ _ _ _)
   | (with_reducible exact ih1 _ _ _ _ _ _ _)
   | (with_reducible exact depotref20_Legal.mono _ _)
   | (with_reducible exact depotref22_Name.mono _ _)
   | (with_reducible exact depotref22_behind.mono _ _ _)
   | (with_reducible exact depotref22_sign.mono _ _ _)
   | (with_reducible exact depotref22_word.mono _ _ _)
   | (with_reducible exact LeO.refl _)
   | (with_reducible exact LeO.none _)
   | (with_reducible refine LeO.ite ?_ ?_)
   | (with_reducible refine LeO.bind ?_ (fun _ => ?_))
   | exact ih0 _ _ _ _ _ _
   | exact ih1 _ _ _ _ _ _ _
   | exact depotref20_Legal.mono _ _
   | exact depotref22_Name.mono _ _
   | exact depotref22_behind.mono _ _ _
   | exact depotref22_sign.mono _ _ _
   | exact depotref22_word.mono _ _ _
   | exact LeO.none _
   | refine LeO.ite ?_ ?_
   | refine LeO.bind ?_ (fun _ => ?_)
theorem depotref22_one.mono : ∀ a0 a1 k, LeO (depotref22_one.f k a0 a1) (depotref22_one.f (k + 1) a0 a1) := by
 intro a0 a1 k
 obtain ⟨ih0, ih1⟩ := depotref22_one.mono_l k
 unfold depotref22_one.f
 repeat' first
   | (with_reducible exact ih0 _ _ _ _ _ _)
   | (with_reducible exact ih1 _ _ _ _ _ _ _)
   | (with_reducible exact depotref20_Legal.mono _ _)
   | (with_reducible exact depotref22_Name.mono _ _)
   | (with_reducible exact depotref22_behind.mono _ _ _)
   | (with_reducible exact depotref22_sign.mono _ _ _)
   | (with_reducible exact depotref22_word.mono _ _ _)
   | (with_reducible exact LeO.refl _)
   | (with_reducible exact LeO.none _)
   | (with_reducible refine LeO.ite ?_ ?_)
   | (with_reducible refine LeO.bind ?_ (fun _ => ?_))
   | exact ih0 _ _ _ _ _ _
   | exact ih1 _ _ _ _ _ _ _
   | exact depotref20_Legal.mono _ _
   | exact depotref22_Name.mono _ _
   | exact depotref22_behind.mono _ _ _
   | exact depotref22_sign.mono _ _ _
   | exact depotref22_word.mono _ _ _
   | exact LeO.none _
   | refine LeO.ite ?_ ?_
   | refine LeO.bind ?_ (fun _ => ?_)
def depotref22_one.T29 : Bool × List (List Nat × List Nat) := (true, [([], []), ([], []), ([], []), ([2], [2]), ([1, 3], [1, 3]), ([0, 4, 0], [0]), ([5, 0, 5], []), ([4, 6, 0, 1, 2, 3, 4, 5, 6], [4])])
def depotref22_one.B29 : List Nat := [0, 0, 0, 4, 14, 31, 63, 127]
theorem depotref22_one.tab29 : rtab .any (opsOf Tryd.f111 29) = depotref22_one.T29 := by kernel_rfl
theorem depotref22_one.bits29 : waitsOk depotref22_one.T29.2 depotref22_one.B29 = true := by kernel_rfl
set_option maxHeartbeats 8000000 in
set_option maxRecDepth 100000 in
theorem depotref22_one.calls (k : Nat) (a0 : ByteArray) (a1 : Int) (r1 : ByteArray) (r2 : Int) (r3 : ByteArray) (r4 : Int) (r5 : Int) (w : World) (h : depotref22_one.f k a0 a1 = some (r1, r2, r3, r4, r5)) :
  Calls Tryd.prog 111 #[.string a0, .int .i64 a1] w fun e w' => e = .returned (.tuple #[.agg #[.string r1, .int .i64 r2, .string r3], .int .i64 r4, .int .i64 r5]) ∧ Below w.heap.size w w' := by
 have hu46 := Tryd.underlying46
 have HB := Aside0.mk (Below.refl w.heap.size w)
 have H : ((depotref22_word.f k a0 a1).bind fun t193 => (if t193 = a1 then (some ((⟨#[]⟩ : ByteArray), 0, (⟨#[]⟩ : ByteArray), 220, a1)) else (if 0 ≤ a1 then (if a1 ≤ t193 then (if t193 ≤ (a0.size : Int) then ((depotref22_Name.f k (a0.extract (a1 : Int).toNat (t193 : Int).toNat)).bind fun t195 => (if t195 = true then ((depotref22_behind.f k a0 t193).bind fun t196 => (if t196 = (a0.size : Int) then (depotref22_one.j0 k a0 t196 true (a0.extract (a1 : Int).toNat (t193 : Int).toNat) 0 (⟨#[]⟩ : ByteArray)) else (if 0 ≤ t196 then (if t196 < (a0.size : Int) then (depotref22_one.j0 k a0 t196 ((bt a0 t196) != 40) (a0.extract (a1 : Int).toNat (t193 : Int).toNat) 0 (⟨#[]⟩ : ByteArray)) else (none)) else (none)))) else (some ((⟨#[]⟩ : ByteArray), 0, (⟨#[]⟩ : ByteArray), 230, a1)))) else (none)) else (none)) else (none)))) = some (r1, r2, r3, r4, r5) := h
 clear h
 replace H := Option.bind_eq_some_iff.mp H
 obtain ⟨t193, A30, H⟩ := H
 replace H : (if t193 = a1 then (some ((⟨#[]⟩ : ByteArray), 0, (⟨#[]⟩ : ByteArray), 220, a1)) else (if 0 ≤ a1 then (if a1 ≤ t193 then (if t193 ≤ (a0.size : Int) then ((depotref22_Name.f k (a0.extract (a1 : Int).toNat (t193 : Int).toNat)).bind fun t195 => (if t195 = true then ((depotref22_behind.f k a0 t193).bind fun t196 => (if t196 = (a0.size : Int) then (depotref22_one.j0 k a0 t196 true (a0.extract (a1 : Int).toNat (t193 : Int).toNat) 0 (⟨#[]⟩ : ByteArray)) else (if 0 ≤ t196 then (if t196 < (a0.size : Int) then (depotref22_one.j0 k a0 t196 ((bt a0 t196) != 40) (a0.extract (a1 : Int).toNat (t193 : Int).toNat) 0 (⟨#[]⟩ : ByteArray)) else (none)) else (none)))) else (some ((⟨#[]⟩ : ByteArray), 0, (⟨#[]⟩ : ByteArray), 230, a1)))) else (none)) else (none)) else (none))) = some (r1, r2, r3, r4, r5) := H
 have A3 := Aside0.mk A30
 clear A30
 by_cases c4 : t193 = a1
 ·rw [if_pos c4] at H
  have c4b0 : (t193 == a1) = true := beq_iff_eq.mpr c4
  have c4b1 : (t193 != a1) = false := bne_eq_false_iff_eq.mpr c4
  clear c4
  simp only [Option.some.injEq, Prod.mk.injEq] at H
  obtain ⟨rfl, rfl, rfl, rfl, rfl⟩ := H
  go_enter Tryd.func111, Tryd.ntmps111
  go_wp2_with (first | ((with_reducible refine gate_dst (N := 4) rfl ?_); refine box_event ?hg (N := 4) ?hd (cs := #[.string (⟨#[]⟩ : ByteArray), .int .i64 0, .string (⟨#[]⟩ : ByteArray)]) (t := 46) ?hr ?_; (case hd => rfl); (case hg => rfl); (case hr => first | (go_simp; done) | (go_simp; rfl)); intro gb192 hg w5 hbox hb; have n0_ := Aside0.mk (below_step (W0 HB.out) hb); have n1_ := Aside0.mk (hbox); have n2_ := Aside0.mk ((by rw [hg]; exact (below_size (W0 HB.out)) : w.heap.size ≤ gb192)); have n3_ := Aside0.mk ((by rw [hg]; exact (below_size (W0 HB.out)) : w.heap.size ≤ gb192)); clear HB; have HB := n0_; have BK192 := n1_; have GW192 := n2_; have GE192 := n3_; clear n0_ n1_ n2_ n3_; clear hb hbox hg) | ((with_reducible refine gate_callee (f := 123) rfl ?_); refine goesL_ (some 12) rfl rfl Tryd.func123 (by kernel_rfl) rfl #[.string a0, .int .i64 a1] rfl (by (try simp only [List.map_toArray, List.map_cons, List.map_nil]); first | done | rfl | (simp only [List.length_drop, List.length_take]; rfl) | (simp; done)) ?_; (with_reducible refine (depotref22_word.calls k a0 a1 t193 _ A3.out).mono ?_); rintro e w' ⟨rfl, ⟨nd, rfl⟩⟩; refine ⟨_, rfl, ?_⟩; (try (rw [drewN_self w5]; generalize hq_ : World.drewN w5 _ = w5; have n0_ : Aside0 (w5.heap[gb192]? = some (.cells #[.string (⟨#[]⟩ : ByteArray), .int .i64 0, .string (⟨#[]⟩ : ByteArray)] 46 (0, 0))) := ⟨by rw [← hq_]; exact (Bq BK192.out)⟩; have n1_ : Aside0 (Below w.heap.size w w5) := ⟨by rw [← hq_]; exact (W1 HB.out GE192.out)⟩; clear BK192 HB hq_; have BK192 := n0_; have HB := n1_; clear n0_ n1_)); (try (have hcu192_0 : w5.cell? ⟨gb192, 0, none⟩ = some (.string (⟨#[]⟩ : ByteArray)) := (blk_cell BK192.out 0).trans rfl; have hfu192_0 := blk_frozen BK192.out 0; have hcu192_1 : w5.cell? ⟨gb192, 1, none⟩ = some (.int .i64 0) := (blk_cell BK192.out 1).trans rfl; have hfu192_1 := blk_frozen BK192.out 1; have hcu192_2 : w5.cell? ⟨gb192, 2, none⟩ = some (.string (⟨#[]⟩ : ByteArray)) := (blk_cell BK192.out 2).trans rfl; have hfu192_2 := blk_frozen BK192.out 2)); have hcz6_0 : w5.cell? ⟨gb192, 0, none⟩ = some (.string (⟨#[]⟩ : ByteArray)) := (blk_cell BK192.out 0).trans rfl; have hcz6_1 : w5.cell? ⟨gb192, 1, none⟩ = some (.int .i64 0) := (blk_cell BK192.out 1).trans rfl; have hcz6_2 : w5.cell? ⟨gb192, 2, none⟩ = some (.string (⟨#[]⟩ : ByteArray)) := (blk_cell BK192.out 2).trans rfl; have hfz6_0 := blk_frozen BK192.out 0; have hfz6_1 := blk_frozen BK192.out 1; have hfz6_2 := blk_frozen BK192.out 2))
  refine bodyPost_ret (results_ctt rfl _ _ gb192 46 #[.string (⟨#[]⟩ : ByteArray), .int .i64 0, .string (⟨#[]⟩ : ByteArray)] (0, 0) _ rfl (by (with_reducible repeat (first | refine blk_drewN ?_ _ | refine blk_drew ?_ | refine blk_alloc ?_ _)); refine blk_put (cs := #[.string (⟨#[]⟩ : ByteArray), .int .i64 0, .string (⟨#[]⟩ : ByteArray)]) ?_ 2 _ rfl; (with_reducible repeat (first | refine blk_drewN ?_ _ | refine blk_drew ?_ | refine blk_alloc ?_ _)); refine blk_put (cs := #[.string (⟨#[]⟩ : ByteArray), .int .i64 0, .string (⟨#[]⟩ : ByteArray)]) ?_ 1 _ rfl; (with_reducible repeat (first | refine blk_drewN ?_ _ | refine blk_drew ?_ | refine blk_alloc ?_ _)); refine blk_put (cs := #[.string (⟨#[]⟩ : ByteArray), .int .i64 0, .string (⟨#[]⟩ : ByteArray)]) ?_ 0 _ rfl; (with_reducible repeat (first | refine blk_drewN ?_ _ | refine blk_drew ?_ | refine blk_alloc ?_ _)); exact BK192.out) Tryd.underlying46 rfl (by kernel_rfl)) rfl ?_
  exact ⟨by first | rfl | (simp [errW_none, errW_some] <;> rfl) | (simp [*, errW_none, errW_some] <;> rfl) | (simp [errW_none, errW_some, Go.Proofs.YtmocooihkobdjaaDoor.listNe]; done), by repeat (first | (with_reducible first | exact HB.out | apply below_alloc | apply pw_below_drewN | apply below_drew1 | refine below_set ?_ GE192.out) | exact HB.out)⟩
 ·rw [if_neg c4] at H
  have c4b0 : (t193 == a1) = false := beq_eq_false_iff_ne.mpr c4
  have c4b1 : (t193 != a1) = true := bne_iff_ne.mpr c4
  by_cases c7 : 0 ≤ a1
  ·rw [if_pos c7] at H
   have c7b0 := eq_true c7
   have c7b1 : decide (0 ≤ a1) = true := decide_eq_true c7
   clear c7
   by_cases c8 : a1 ≤ t193
   ·rw [if_pos c8] at H
    have c8b0 := eq_true c8
    have c8b1 : decide (a1 ≤ t193) = true := decide_eq_true c8
    clear c8
    by_cases c9 : t193 ≤ (a0.size : Int)
    ·rw [if_pos c9] at H
     have c9b0 := eq_true c9
     have c9b1 : decide (t193 ≤ (a0.size : Int)) = true := decide_eq_true c9
     clear c9
     replace H := Option.bind_eq_some_iff.mp H
     obtain ⟨t195, A100, H⟩ := H
     replace H : (if t195 = true then ((depotref22_behind.f k a0 t193).bind fun t196 => (if t196 = (a0.size : Int) then (depotref22_one.j0 k a0 t196 true (a0.extract (a1 : Int).toNat (t193 : Int).toNat) 0 (⟨#[]⟩ : ByteArray)) else (if 0 ≤ t196 then (if t196 < (a0.size : Int) then (depotref22_one.j0 k a0 t196 ((bt a0 t196) != 40) (a0.extract (a1 : Int).toNat (t193 : Int).toNat) 0 (⟨#[]⟩ : ByteArray)) else (none)) else (none)))) else (some ((⟨#[]⟩ : ByteArray), 0, (⟨#[]⟩ : ByteArray), 230, a1))) = some (r1, r2, r3, r4, r5) := H
     have A10 := Aside0.mk A100
     clear A100
     by_cases c11 : t195 = true
     ·subst c11
      have H1 : ((depotref22_behind.f k a0 t193).bind fun t196 => (if t196 = (a0.size : Int) then (depotref22_one.j0 k a0 t196 true (a0.extract (a1 : Int).toNat (t193 : Int).toNat) 0 (⟨#[]⟩ : ByteArray)) else (if 0 ≤ t196 then (if t196 < (a0.size : Int) then (depotref22_one.j0 k a0 t196 ((bt a0 t196) != 40) (a0.extract (a1 : Int).toNat (t193 : Int).toNat) 0 (⟨#[]⟩ : ByteArray)) else (none)) else (none)))) = some (r1, r2, r3, r4, r5) := by rw [if_pos rfl] at H; exact H
      clear H
      have H := H1
      clear H1
      replace H := Option.bind_eq_some_iff.mp H
      obtain ⟨t196, A120, H⟩ := H
      replace H : (if t196 = (a0.size : Int) then (depotref22_one.j0 k a0 t196 true (a0.extract (a1 : Int).toNat (t193 : Int).toNat) 0 (⟨#[]⟩ : ByteArray)) else (if 0 ≤ t196 then (if t196 < (a0.size : Int) then (depotref22_one.j0 k a0 t196 ((bt a0 t196) != 40) (a0.extract (a1 : Int).toNat (t193 : Int).toNat) 0 (⟨#[]⟩ : ByteArray)) else (none)) else (none))) = some (r1, r2, r3, r4, r5) := H
      have A12 := Aside0.mk A120
      clear A120
      have HC13 := Aside0.mk H
      clear H
      go_enter Tryd.func111, Tryd.ntmps111
      go_upto_region 8 with (first | ((with_reducible refine gate_dst (N := 4) rfl ?_); refine box_event ?hg (N := 4) ?hd (cs := #[.string (⟨#[]⟩ : ByteArray), .int .i64 0, .string (⟨#[]⟩ : ByteArray)]) (t := 46) ?hr ?_; (case hd => rfl); (case hg => rfl); (case hr => first | (go_simp; done) | (go_simp; rfl)); intro gb192 hg w14 hbox hb; have n0_ := Aside0.mk (below_step (W0 HB.out) hb); have n1_ := Aside0.mk (hbox); have n2_ := Aside0.mk ((by rw [hg]; exact (below_size (W0 HB.out)) : w.heap.size ≤ gb192)); have n3_ := Aside0.mk ((by rw [hg]; exact (below_size (W0 HB.out)) : w.heap.size ≤ gb192)); clear HB; have HB := n0_; have BK192 := n1_; have GW192 := n2_; have GE192 := n3_; clear n0_ n1_ n2_ n3_; clear hb hbox hg) | ((with_reducible refine gate_callee (f := 123) rfl ?_); refine goesL_ (some 12) rfl rfl Tryd.func123 (by kernel_rfl) rfl #[.string a0, .int .i64 a1] rfl (by (try simp only [List.map_toArray, List.map_cons, List.map_nil]); first | done | rfl | (simp only [List.length_drop, List.length_take]; rfl) | (simp; done)) ?_; (with_reducible refine (depotref22_word.calls k a0 a1 t193 _ A3.out).mono ?_); rintro e w' ⟨rfl, ⟨nd, rfl⟩⟩; refine ⟨_, rfl, ?_⟩; (try (rw [drewN_self w14]; generalize hq_ : World.drewN w14 _ = w14; have n0_ : Aside0 (w14.heap[gb192]? = some (.cells #[.string (⟨#[]⟩ : ByteArray), .int .i64 0, .string (⟨#[]⟩ : ByteArray)] 46 (0, 0))) := ⟨by rw [← hq_]; exact (Bq BK192.out)⟩; have n1_ : Aside0 (Below w.heap.size w w14) := ⟨by rw [← hq_]; exact (W1 HB.out GE192.out)⟩; clear BK192 HB hq_; have BK192 := n0_; have HB := n1_; clear n0_ n1_)); (try (have hcu192_0 : w14.cell? ⟨gb192, 0, none⟩ = some (.string (⟨#[]⟩ : ByteArray)) := (blk_cell BK192.out 0).trans rfl; have hfu192_0 := blk_frozen BK192.out 0; have hcu192_1 : w14.cell? ⟨gb192, 1, none⟩ = some (.int .i64 0) := (blk_cell BK192.out 1).trans rfl; have hfu192_1 := blk_frozen BK192.out 1; have hcu192_2 : w14.cell? ⟨gb192, 2, none⟩ = some (.string (⟨#[]⟩ : ByteArray)) := (blk_cell BK192.out 2).trans rfl; have hfu192_2 := blk_frozen BK192.out 2))) | ((with_reducible refine gate_dst (N := 8) rfl ?_); refine box_event ?hg (N := 8) ?hd (cs := #[.string (⟨#[]⟩ : ByteArray), .int .i64 0, .string (⟨#[]⟩ : ByteArray)]) (t := 46) ?hr ?_; (case hd => rfl); (case hg => rfl); (case hr => first | (go_simp; done) | (go_simp; rfl)); intro gb194 hg w15 hbox hb; have n0_ := Aside0.mk (blk_below (g := gb192) (o := .cells #[.string (⟨#[]⟩ : ByteArray), .int .i64 0, .string (⟨#[]⟩ : ByteArray)] 46 (0, 0)) (Bq BK192.out) hb); have n1_ := Aside0.mk (below_step (W1 HB.out GE192.out) hb); have n2_ := Aside0.mk (hbox); have n3_ := Aside0.mk ((by rw [hg]; exact (below_size (W1 HB.out GE192.out)) : w.heap.size ≤ gb194)); have n4_ := Aside0.mk ((by rw [hg]; exact (below_size (W1 HB.out GE192.out)) : w.heap.size ≤ gb194)); have n5_ := Aside0.mk ((by rw [hg]; exact Nat.ne_of_lt (blk_lt (g := gb192) (o := .cells #[.string (⟨#[]⟩ : ByteArray), .int .i64 0, .string (⟨#[]⟩ : ByteArray)] 46 (0, 0)) (Bq BK192.out)) : gb192 ≠ gb194)); have n6_ := Aside0.mk ((by rw [hg]; exact Nat.ne_of_gt (blk_lt (g := gb192) (o := .cells #[.string (⟨#[]⟩ : ByteArray), .int .i64 0, .string (⟨#[]⟩ : ByteArray)] 46 (0, 0)) (Bq BK192.out)) : gb194 ≠ gb192)); clear BK192; clear HB; have BK192 := n0_; have HB := n1_; have BK194 := n2_; have GW194 := n3_; have GE194 := n4_; have NB192_194 := n5_; have NB194_192 := n6_; clear n0_ n1_ n2_ n3_ n4_ n5_ n6_; clear hb hbox hg; have hnb16 := NB194_192.out; have hnc16 := NB192_194.out; have hcz17_0 : w15.cell? ⟨gb194, 0, none⟩ = some (.string (⟨#[]⟩ : ByteArray)) := (blk_cell BK194.out 0).trans rfl; have hcz17_1 : w15.cell? ⟨gb194, 1, none⟩ = some (.int .i64 0) := (blk_cell BK194.out 1).trans rfl; have hcz17_2 : w15.cell? ⟨gb194, 2, none⟩ = some (.string (⟨#[]⟩ : ByteArray)) := (blk_cell BK194.out 2).trans rfl; have hfz17_0 := blk_frozen BK194.out 0; have hfz17_1 := blk_frozen BK194.out 1; have hfz17_2 := blk_frozen BK194.out 2) | ((with_reducible refine gate_callee (f := 51) rfl ?_); refine goesL_ (some 25) rfl rfl Tryd.func51 (by kernel_rfl) rfl #[.string (a0.extract (a1 : Int).toNat (t193 : Int).toNat)] rfl (by (try simp only [List.map_toArray, List.map_cons, List.map_nil]); first | done | rfl | (simp only [List.length_drop, List.length_take]; rfl) | (simp; done)) ?_; (with_reducible refine (depotref22_Name.calls k (a0.extract (a1 : Int).toNat (t193 : Int).toNat) true _ A10.out).mono ?_); rintro e w' ⟨rfl, ⟨nd, rfl⟩⟩; refine ⟨_, rfl, ?_⟩) | ((with_reducible refine gate_callee (f := 110) rfl ?_); refine goesL_ (some 31) rfl rfl Tryd.func110 (by kernel_rfl) rfl #[.string a0, .int .i64 t193] rfl (by (try simp only [List.map_toArray, List.map_cons, List.map_nil]); first | done | rfl | (simp only [List.length_drop, List.length_take]; rfl) | (simp; done)) ?_; (with_reducible refine (depotref22_behind.calls k a0 t193 t196 _ A12.out).mono ?_); rintro e w' ⟨rfl, ⟨nd, rfl⟩⟩; refine ⟨_, rfl, ?_⟩))
      (try simp only [Act.put, List.setIfInBounds_toArray, List.set_cons_zero, List.set_cons_succ])
      go_cut [41] (fun v41 wc => ∃ (kq : Nat) (x41_12 : Bool), v41 = .bool x41_12 ∧ Aside0 (depotref22_one.j0 kq a0 t196 x41_12 (a0.extract (a1 : Int).toNat (t193 : Int).toNat) 0 (⟨#[]⟩ : ByteArray) = some (r1, r2, r3, r4, r5)) ∧ Aside0 (kq ≤ k) ∧ Aside0 (wc.heap[gb192]? = some (.cells #[.string (⟨#[]⟩ : ByteArray), .int .i64 0, .string (⟨#[]⟩ : ByteArray)] 46 (0, 0))) ∧ Aside0 (wc.heap[gb194]? = some (.cells #[.string (a0.extract (a1 : Int).toNat (t193 : Int).toNat), .int .i64 0, .string (⟨#[]⟩ : ByteArray)] 46 (0, 0))) ∧ Aside0 (Below w.heap.size w wc))
      case first =>
       have H := HC13.out
       clear HC13
       by_cases c18 : t196 = (a0.size : Int)
       ·rw [if_pos c18] at H
        have c18b0 : (t196 == (a0.size : Int)) = true := beq_iff_eq.mpr c18
        have c18b1 : (t196 != (a0.size : Int)) = false := bne_eq_false_iff_eq.mpr c18
        clear c18
        (first | rw [c18b0] | (simp only [i64_w, i32_w]; rw [c18b0]) | skip)
        have H' := Aside0.mk H
        clear H
        go_wp2
        go_meet
        case rel => exact ⟨_, (true), (by first | rfl | (simp; done) | (simp [*]; done)), H', ⟨by first | omega | exact Nat.le_refl _⟩, ⟨by (with_reducible repeat (first | refine blk_drewN ?_ _ | refine blk_drew ?_ | refine blk_alloc ?_ _)); refine blk_far ?_ NB192_194.out _; (with_reducible repeat (first | refine blk_drewN ?_ _ | refine blk_drew ?_ | refine blk_alloc ?_ _)); refine blk_far ?_ NB192_194.out _; (with_reducible repeat (first | refine blk_drewN ?_ _ | refine blk_drew ?_ | refine blk_alloc ?_ _)); refine blk_far ?_ NB192_194.out _; (with_reducible repeat (first | refine blk_drewN ?_ _ | refine blk_drew ?_ | refine blk_alloc ?_ _)); exact BK192.out⟩, ⟨by (with_reducible repeat (first | refine blk_drewN ?_ _ | refine blk_drew ?_ | refine blk_alloc ?_ _)); refine blk_put (cs := #[.string (a0.extract (a1 : Int).toNat (t193 : Int).toNat), .int .i64 0, .string (⟨#[]⟩ : ByteArray)]) ?_ 2 _ rfl; (with_reducible repeat (first | refine blk_drewN ?_ _ | refine blk_drew ?_ | refine blk_alloc ?_ _)); refine blk_put (cs := #[.string (a0.extract (a1 : Int).toNat (t193 : Int).toNat), .int .i64 0, .string (⟨#[]⟩ : ByteArray)]) ?_ 1 _ rfl; (with_reducible repeat (first | refine blk_drewN ?_ _ | refine blk_drew ?_ | refine blk_alloc ?_ _)); refine blk_put (cs := #[.string (⟨#[]⟩ : ByteArray), .int .i64 0, .string (⟨#[]⟩ : ByteArray)]) ?_ 0 _ rfl; (with_reducible repeat (first | refine blk_drewN ?_ _ | refine blk_drew ?_ | refine blk_alloc ?_ _)); exact BK194.out⟩, ⟨by repeat (first | (with_reducible first | exact HB.out | apply below_alloc | apply pw_below_drewN | apply below_drew1 | refine below_set ?_ GE192.out | refine below_set ?_ GE194.out) | exact HB.out)⟩⟩
       ·rw [if_neg c18] at H
        have c18b0 : (t196 == (a0.size : Int)) = false := beq_eq_false_iff_ne.mpr c18
        have c18b1 : (t196 != (a0.size : Int)) = true := bne_iff_ne.mpr c18
        (first | rw [c18b0] | (simp only [i64_w, i32_w]; rw [c18b0]) | skip)
        by_cases c19 : 0 ≤ t196
        ·rw [if_pos c19] at H
         have c19b0 : decide (0 ≤ t196) = true := decide_eq_true c19
         clear c19
         by_cases c20 : t196 < (a0.size : Int)
         ·rw [if_pos c20] at H
          have c20b0 : decide (t196 < (a0.size : Int)) = true := decide_eq_true c20
          clear c20
          have H' := Aside0.mk H
          clear H
          have p21 : 0 ≤ (t196 : Int) := of_decide_eq_true (by first | (with_reducible assumption) | assumption)
          have q21 : t196 < (a0.size : Int) := of_decide_eq_true (by first | (with_reducible assumption) | assumption)
          have hx21 := bt_at a0 t196
          replace p21 := eq_true p21
          replace q21 := eq_true q21
          go_wp2
          go_meet
          case rel => exact ⟨_, (((bt a0 t196) != 40)), (by first | rfl | (simp; done) | (simp [*]; done)), H', ⟨by first | omega | exact Nat.le_refl _⟩, ⟨by (with_reducible repeat (first | refine blk_drewN ?_ _ | refine blk_drew ?_ | refine blk_alloc ?_ _)); refine blk_far ?_ NB192_194.out _; (with_reducible repeat (first | refine blk_drewN ?_ _ | refine blk_drew ?_ | refine blk_alloc ?_ _)); refine blk_far ?_ NB192_194.out _; (with_reducible repeat (first | refine blk_drewN ?_ _ | refine blk_drew ?_ | refine blk_alloc ?_ _)); refine blk_far ?_ NB192_194.out _; (with_reducible repeat (first | refine blk_drewN ?_ _ | refine blk_drew ?_ | refine blk_alloc ?_ _)); exact BK192.out⟩, ⟨by (with_reducible repeat (first | refine blk_drewN ?_ _ | refine blk_drew ?_ | refine blk_alloc ?_ _)); refine blk_put (cs := #[.string (a0.extract (a1 : Int).toNat (t193 : Int).toNat), .int .i64 0, .string (⟨#[]⟩ : ByteArray)]) ?_ 2 _ rfl; (with_reducible repeat (first | refine blk_drewN ?_ _ | refine blk_drew ?_ | refine blk_alloc ?_ _)); refine blk_put (cs := #[.string (a0.extract (a1 : Int).toNat (t193 : Int).toNat), .int .i64 0, .string (⟨#[]⟩ : ByteArray)]) ?_ 1 _ rfl; (with_reducible repeat (first | refine blk_drewN ?_ _ | refine blk_drew ?_ | refine blk_alloc ?_ _)); refine blk_put (cs := #[.string (⟨#[]⟩ : ByteArray), .int .i64 0, .string (⟨#[]⟩ : ByteArray)]) ?_ 0 _ rfl; (with_reducible repeat (first | refine blk_drewN ?_ _ | refine blk_drew ?_ | refine blk_alloc ?_ _)); exact BK194.out⟩, ⟨by repeat (first | (with_reducible first | exact HB.out | apply below_alloc | apply pw_below_drewN | apply below_drew1 | refine below_set ?_ GE192.out | refine below_set ?_ GE194.out) | exact HB.out)⟩⟩
         ·rw [if_neg c20] at H
          exact absurd H (by simp)
        ·rw [if_neg c19] at H
         exact absurd H (by simp)
      case rest =>
       clear HC13
       try clear c1
       try clear c2
       try clear p2
       try clear q2
       try clear hx2
       try clear c4
       try clear c4b0
       try clear c4b1
       try clear c5
       try clear c7
       try clear c7b0
       try clear c7b1
       try clear c8
       try clear c8b0
       try clear c8b1
       try clear c9
       try clear c9b0
       try clear c9b1
       try clear c11
       try clear c12
       try clear c16
       try clear c18
       try clear c18b0
       try clear c18b1
       try clear c19
       try clear c19b0
       try clear c20
       try clear c20b0
       try clear p21
       try clear q21
       try clear hx21
       try clear hcz17_0
       try clear hcz17_1
       try clear hcz17_2
       try clear hcz6_0
       try clear hcz6_1
       try clear hcz6_2
       try clear hfz17_0
       try clear hfz17_1
       try clear hfz17_2
       try clear hfz6_0
       try clear hfz6_1
       try clear hfz6_2
       try clear p21
       try clear q21
       obtain ⟨kq, x41_12, rfl, HA, HJ12, BK192, BK194, HB⟩ := hcut
       cases kq with
       | zero => exact absurd HA.out (by simp [depotref22_one.j0])
       | succ kj12 =>
        have H := HA.out
        clear HA
        simp only [depotref22_one.j0] at H
        by_cases c22 : x41_12 = true
        ·subst c22
         have H1 : (some ((a0.extract (a1 : Int).toNat (t193 : Int).toNat), 0, (⟨#[]⟩ : ByteArray), 0, t196)) = some (r1, r2, r3, r4, r5) := by rw [if_pos rfl] at H; exact H
         clear H
         have H := H1
         clear H1
         simp only [Option.some.injEq, Prod.mk.injEq] at H
         obtain ⟨rfl, rfl, rfl, rfl, rfl⟩ := H
         have hnb23 := NB194_192.out
         have hnc23 := NB192_194.out
         have hcz24_0 : wc.cell? ⟨gb194, 0, none⟩ = some (.string (a0.extract (a1 : Int).toNat (t193 : Int).toNat)) := (blk_cell BK194.out 0).trans rfl
         have hcz24_1 : wc.cell? ⟨gb194, 1, none⟩ = some (.int .i64 0) := (blk_cell BK194.out 1).trans rfl
         have hcz24_2 : wc.cell? ⟨gb194, 2, none⟩ = some (.string (⟨#[]⟩ : ByteArray)) := (blk_cell BK194.out 2).trans rfl
         have hfz24_0 := blk_frozen BK194.out 0
         have hfz24_1 := blk_frozen BK194.out 1
         have hfz24_2 := blk_frozen BK194.out 2
         have hcz25_0 : wc.cell? ⟨gb192, 0, none⟩ = some (.string (⟨#[]⟩ : ByteArray)) := (blk_cell BK192.out 0).trans rfl
         have hcz25_1 : wc.cell? ⟨gb192, 1, none⟩ = some (.int .i64 0) := (blk_cell BK192.out 1).trans rfl
         have hcz25_2 : wc.cell? ⟨gb192, 2, none⟩ = some (.string (⟨#[]⟩ : ByteArray)) := (blk_cell BK192.out 2).trans rfl
         have hfz25_0 := blk_frozen BK192.out 0
         have hfz25_1 := blk_frozen BK192.out 1
         have hfz25_2 := blk_frozen BK192.out 2
         go_wp2
         refine bodyPost_ret (results_ctt rfl _ _ gb192 46 #[.string (a0.extract (a1 : Int).toNat (t193 : Int).toNat), .int .i64 0, .string (⟨#[]⟩ : ByteArray)] (0, 0) _ rfl (by (with_reducible repeat (first | refine blk_drewN ?_ _ | refine blk_drew ?_ | refine blk_alloc ?_ _)); refine blk_put (cs := #[.string (a0.extract (a1 : Int).toNat (t193 : Int).toNat), .int .i64 0, .string (⟨#[]⟩ : ByteArray)]) ?_ 2 _ rfl; (with_reducible repeat (first | refine blk_drewN ?_ _ | refine blk_drew ?_ | refine blk_alloc ?_ _)); refine blk_put (cs := #[.string (a0.extract (a1 : Int).toNat (t193 : Int).toNat), .int .i64 0, .string (⟨#[]⟩ : ByteArray)]) ?_ 1 _ rfl; (with_reducible repeat (first | refine blk_drewN ?_ _ | refine blk_drew ?_ | refine blk_alloc ?_ _)); refine blk_put (cs := #[.string (⟨#[]⟩ : ByteArray), .int .i64 0, .string (⟨#[]⟩ : ByteArray)]) ?_ 0 _ rfl; (with_reducible repeat (first | refine blk_drewN ?_ _ | refine blk_drew ?_ | refine blk_alloc ?_ _)); exact BK192.out) Tryd.underlying46 rfl (by kernel_rfl)) rfl ?_
         exact ⟨by first | rfl | (simp [errW_none, errW_some] <;> rfl) | (simp [*, errW_none, errW_some] <;> rfl) | (simp [errW_none, errW_some, Go.Proofs.YtmocooihkobdjaaDoor.listNe]; done), by repeat (first | (with_reducible first | exact HB.out | apply below_alloc | apply pw_below_drewN | apply below_drew1 | refine below_set ?_ GE192.out | refine below_set ?_ GE194.out) | exact HB.out)⟩
        ·replace c22 := Bool.eq_false_iff.mpr c22
         subst c22
         have H1 : ((depotref22_behind.f kj12 a0 (wrap64 (t196 + 1))).bind fun t197 => ((depotref22_sign.f kj12 a0 t197).bind fun t198 => (depotref22_one.l0 kj12 a0 t197 t198 1 (a0.extract (a1 : Int).toNat (t193 : Int).toNat) 0 (⟨#[]⟩ : ByteArray)))) = some (r1, r2, r3, r4, r5) := by rw [if_neg (show ¬ (false = true) by decide)] at H; exact H
         clear H
         have H := H1
         clear H1
         replace H := Option.bind_eq_some_iff.mp H
         obtain ⟨t197, A260, H⟩ := H
         replace H : ((depotref22_sign.f kj12 a0 t197).bind fun t198 => (depotref22_one.l0 kj12 a0 t197 t198 1 (a0.extract (a1 : Int).toNat (t193 : Int).toNat) 0 (⟨#[]⟩ : ByteArray))) = some (r1, r2, r3, r4, r5) := H
         have A26 := Aside0.mk A260
         clear A260
         replace H := Option.bind_eq_some_iff.mp H
         obtain ⟨t198, A270, H⟩ := H
         replace H : (depotref22_one.l0 kj12 a0 t197 t198 1 (a0.extract (a1 : Int).toNat (t193 : Int).toNat) 0 (⟨#[]⟩ : ByteArray)) = some (r1, r2, r3, r4, r5) := H
         have A27 := Aside0.mk A270
         clear A270
         have H' := Aside0.mk H
         clear H
         go_wp2_with (first | ((with_reducible refine gate_callee (f := 110) rfl ?_); refine goesL_ (some 47) rfl rfl Tryd.func110 (by kernel_rfl) rfl #[.string a0, .int .i64 (wrap64 (t196 + 1))] rfl (by (try simp only [List.map_toArray, List.map_cons, List.map_nil]); first | done | rfl | (simp only [List.length_drop, List.length_take]; rfl) | (simp; done)) ?_; (with_reducible refine (depotref22_behind.calls kj12 a0 (wrap64 (t196 + 1)) t197 _ A26.out).mono ?_); rintro e w' ⟨rfl, ⟨nd, rfl⟩⟩; refine ⟨_, rfl, ?_⟩) | ((with_reducible refine gate_callee (f := 124) rfl ?_); refine goesL_ (some 50) rfl rfl Tryd.func124 (by kernel_rfl) rfl #[.string a0, .int .i64 t197] rfl (by (try simp only [List.map_toArray, List.map_cons, List.map_nil]); first | done | rfl | (simp only [List.length_drop, List.length_take]; rfl) | (simp; done)) ?_; (with_reducible refine (depotref22_sign.calls kj12 a0 t197 t198 _ A27.out).mono ?_); rintro e w' ⟨rfl, ⟨nd, rfl⟩⟩; refine ⟨_, rfl, ?_⟩))
         go_loopg [9] kj12 (fun kq v9 w' => ∃ (x9_2 : Int) (x195001_2 : Int), v9 = .int .i64 x9_2 ∧ Aside0 (depotref22_one.l0 kq a0 t197 t198 x9_2 (a0.extract (a1 : Int).toNat (t193 : Int).toNat) x195001_2 (⟨#[]⟩ : ByteArray) = some (r1, r2, r3, r4, r5)) ∧ Aside0 (kq ≤ kj12) ∧ Aside0 (w'.heap[gb192]? = some (.cells #[.string (⟨#[]⟩ : ByteArray), .int .i64 0, .string (⟨#[]⟩ : ByteArray)] 46 (0, 0))) ∧ Aside0 (w'.heap[gb194]? = some (.cells #[.string (a0.extract (a1 : Int).toNat (t193 : Int).toNat), .int .i64 x195001_2, .string (⟨#[]⟩ : ByteArray)] 46 (0, 0))) ∧ Aside0 (Below w.heap.size w w'))
         case atStart => exact ⟨(1), (0), (by first | rfl | (simp; done) | (simp [*]; done)), H', ⟨Nat.le_refl _⟩, ⟨by (with_reducible repeat (first | refine blk_drewN ?_ _ | refine blk_drew ?_ | refine blk_alloc ?_ _)); exact BK192.out⟩, ⟨by (with_reducible repeat (first | refine blk_drewN ?_ _ | refine blk_drew ?_ | refine blk_alloc ?_ _)); exact BK194.out⟩, ⟨by repeat (first | (with_reducible first | exact HB.out | apply below_alloc | apply pw_below_drewN | apply below_drew1 | refine below_set ?_ GE192.out | refine below_set ?_ GE194.out) | exact HB.out)⟩⟩
         case round =>
          clear H'
          try clear c1
          try clear c2
          try clear p2
          try clear q2
          try clear hx2
          try clear c4
          try clear c4b0
          try clear c4b1
          try clear c5
          try clear p6
          try clear c7
          try clear c7b0
          try clear c7b1
          try clear c8
          try clear c8b0
          try clear c8b1
          try clear c9
          try clear c9b0
          try clear c9b1
          try clear c11
          try clear c12
          try clear c16
          try clear c18
          try clear c18b0
          try clear c18b1
          try clear c19
          try clear c19b0
          try clear c20
          try clear c20b0
          try clear p21
          try clear q21
          try clear hx21
          try clear c22
          try clear c23
          try clear hcz17_0
          try clear hcz17_1
          try clear hcz17_2
          try clear hcz24_0
          try clear hcz24_1
          try clear hcz24_2
          try clear hcz25_0
          try clear hcz25_1
          try clear hcz25_2
          try clear hcz6_0
          try clear hcz6_1
          try clear hcz6_2
          try clear hfz17_0
          try clear hfz17_1
          try clear hfz17_2
          try clear hfz24_0
          try clear hfz24_1
          try clear hfz24_2
          try clear hfz25_0
          try clear hfz25_1
          try clear hfz25_2
          try clear hfz6_0
          try clear hfz6_1
          try clear hfz6_2
          try clear p2
          try clear p21
          try clear q2
          try clear q21
          obtain ⟨x9_2, x195001_2, rfl, HA, HK2, BK192, BK194, HB⟩ := hrel
          cases gk with
          | zero => exact absurd HA.out (by simp [depotref22_one.l0])
          | succ k2 =>
           have H := HA.out
           clear HA
           simp only [depotref22_one.l0] at H
           by_cases c28 : x9_2 ≤ 5
           ·rw [if_pos c28] at H
            have c28b0 : decide (x9_2 ≤ 5) = true := decide_eq_true c28
            clear c28
            replace H := Option.bind_eq_some_iff.mp H
            obtain ⟨t199, A290, H⟩ := H
            replace H : (if 0 ≤ t197 then (if t197 ≤ t198 then (if t198 ≤ (a0.size : Int) then (if t199.toList = (a0.extract (t197 : Int).toNat (t198 : Int).toNat).toList then (depotref22_one.l0 k2 a0 t197 t198 (wrap64 (x9_2 + 1)) (a0.extract (a1 : Int).toNat (t193 : Int).toNat) x9_2 (⟨#[]⟩ : ByteArray)) else (depotref22_one.l0 k2 a0 t197 t198 (wrap64 (x9_2 + 1)) (a0.extract (a1 : Int).toNat (t193 : Int).toNat) x195001_2 (⟨#[]⟩ : ByteArray))) else (none)) else (none)) else (none)) = some (r1, r2, r3, r4, r5) := H
            have A29 := Aside0.mk A290
            clear A290
            by_cases c30 : 0 ≤ t197
            ·rw [if_pos c30] at H
             have c30b0 := eq_true c30
             have c30b1 : decide (0 ≤ t197) = true := decide_eq_true c30
             clear c30
             by_cases c31 : t197 ≤ t198
             ·rw [if_pos c31] at H
              have c31b0 := eq_true c31
              have c31b1 : decide (t197 ≤ t198) = true := decide_eq_true c31
              clear c31
              by_cases c32 : t198 ≤ (a0.size : Int)
              ·rw [if_pos c32] at H
               have c32b0 := eq_true c32
               have c32b1 : decide (t198 ≤ (a0.size : Int)) = true := decide_eq_true c32
               clear c32
               by_cases c33 : t199.toList = (a0.extract (t197 : Int).toNat (t198 : Int).toNat).toList
               ·rw [if_pos c33] at H
                have c33b0 : (t199.toList == (a0.extract (t197 : Int).toNat (t198 : Int).toNat).toList) = true := beq_iff_eq.mpr c33
                have c33b1 : (t199.toList != (a0.extract (t197 : Int).toNat (t198 : Int).toNat).toList) = false := bne_eq_false_iff_eq.mpr c33
                clear c33
                have H' := Aside0.mk H
                clear H
                try go_wp2
                have n0_ := Aside0.mk (blk_drew BK192.out)
                have n1_ := Aside0.mk (blk_drew BK194.out)
                have n2_ := Aside0.mk (below_drew1 HB.out)
                clear BK192
                clear BK194
                clear HB
                have BK192 := n0_
                have BK194 := n1_
                have HB := n2_
                clear n0_ n1_ n2_
                refine start_ (n := 7) (S := fun w' => True) (ds := []) #[false, false, false, false, false, false, false] (by kernel_rfl) rfl rfl trivial (fun hHeld => ?_)
                generalize wr.drew = w34 at BK192 BK194 HB hHeld ⊢
                refine pure_ (i := 0) (N := some 55) (v := ?_) (a' := ?_) #[true, false, false, false, false, false, false] rfl rfl (by kernel_rfl) (fun _ _ _ h => h) (Or.inl ⟨by rfl, ?_⟩) ?_ ?_
                rotate_left
                ·intro w'
                 go_simp
                 with_reducible rfl
                rotate_left
                ·simp only [Act.put, List.setIfInBounds_toArray, List.set_cons_zero, List.set_cons_succ, i64_w, i32_w]
                 rfl
                refine pure_ (i := 2) (N := some 57) (v := ?_) (a' := ?_) #[true, false, true, false, false, false, false] rfl rfl (by kernel_rfl) (fun _ _ _ h => h) (Or.inl ⟨by rfl, ?_⟩) ?_ ?_
                rotate_left
                ·intro w'
                 go_simp
                 with_reducible rfl
                rotate_left
                ·simp only [Act.put, List.setIfInBounds_toArray, List.set_cons_zero, List.set_cons_succ, i64_w, i32_w]
                 rfl
                refine pure_ (i := 3) (N := some 58) (v := ?_) (a' := ?_) #[true, false, true, true, false, false, false] rfl rfl (by kernel_rfl) (fun _ _ _ h => h) (Or.inl ⟨by rfl, ?_⟩) ?_ ?_
                rotate_left
                ·intro w'
                 go_simp
                 with_reducible rfl
                rotate_left
                ·simp only [Act.put, List.setIfInBounds_toArray, List.set_cons_zero, List.set_cons_succ, i64_w, i32_w]
                 rfl
                refine pure_ (i := 4) (N := some 59) (v := ?_) (a' := ?_) #[true, false, true, true, true, false, false] rfl rfl (by kernel_rfl) (fun _ _ _ h => h) (Or.inl ⟨by rfl, ?_⟩) ?_ ?_
                rotate_left
                ·intro w'
                 go_simp
                 with_reducible rfl
                rotate_left
                ·simp only [Act.put, List.setIfInBounds_toArray, List.set_cons_zero, List.set_cons_succ, i64_w, i32_w]
                 rfl
                refine pure_ (i := 5) (N := some 60) (v := ?_) (a' := ?_) #[true, false, true, true, true, true, false] rfl rfl (by kernel_rfl) (fun _ _ _ h => h) (Or.inl ⟨by rfl, ?_⟩) ?_ ?_
                rotate_left
                ·intro w'
                 go_simp
                 with_reducible rfl
                rotate_left
                ·simp only [Act.put, List.setIfInBounds_toArray, List.set_cons_zero, List.set_cons_succ, i64_w, i32_w]
                 rfl
                refine one_ (i := 1) (N := some 56) #[true, true, true, true, true, true, false] rfl rfl (by kernel_rfl) (by decide) (fun K hK => ?_)
                refine goes_ Tryd.func52 (by kernel_rfl) rfl #[.int .i64 x9_2] (by rfl) rfl rfl (by (try simp only [List.map_toArray, List.map_cons, List.map_nil]); first | done | rfl | (simp only [List.length_drop, List.length_take]; rfl) | (simp; done)) ?_
                with_reducible refine (depotref22_Sign.calls x9_2 t199 _ A29.out).mono ?_
                rintro e w' ⟨rfl, ⟨nd, rfl⟩⟩
                refine ⟨_, rfl, ?_⟩
                refine hK.out _ _ trivial (fun hHeld => ?_)
                clear hK K
                refine norm_ (a' := ?_) ?_ ?_
                rotate_left
                ·show Act.put _ (some 56) _ = _
                 simp only [Act.put, List.setIfInBounds_toArray, List.set_cons_zero, List.set_cons_succ, i64_w, i32_w]
                 rfl
                refine pure_ (i := 6) (N := some 61) (v := ?_) (a' := ?_) #[true, true, true, true, true, true, true] rfl rfl (by kernel_rfl) (fun _ _ _ h => h) (Or.inl ⟨by rfl, ?_⟩) ?_ ?_
                rotate_left
                ·intro w'
                 go_simp
                 with_reducible rfl
                rotate_left
                ·simp only [Act.put, List.setIfInBounds_toArray, List.set_cons_zero, List.set_cons_succ, i64_w, i32_w]
                 rfl
                refine done_ (by kernel_rfl) ?_
                have hnb35 := NB194_192.out
                have hnc35 := NB192_194.out
                have hcz36_0 : w34.cell? ⟨gb194, 0, none⟩ = some (.string (a0.extract (a1 : Int).toNat (t193 : Int).toNat)) := (blk_cell BK194.out 0).trans rfl
                have hcz36_1 : w34.cell? ⟨gb194, 1, none⟩ = some (.int .i64 x195001_2) := (blk_cell BK194.out 1).trans rfl
                have hcz36_2 : w34.cell? ⟨gb194, 2, none⟩ = some (.string (⟨#[]⟩ : ByteArray)) := (blk_cell BK194.out 2).trans rfl
                have hfz36_0 := blk_frozen BK194.out 0
                have hfz36_1 := blk_frozen BK194.out 1
                have hfz36_2 := blk_frozen BK194.out 2
                try go_wp2
                go_roundg k2
                case measure => have := HJ12.out; have := HK2.out; omega
                case rel => exact ⟨(wrap64 (x9_2 + 1)), (x9_2), (by first | rfl | (simp; done) | (simp [*]; done)), H', ⟨by have := HJ12.out; have := HK2.out; omega⟩, ⟨by (with_reducible repeat (first | refine blk_drewN ?_ _ | refine blk_drew ?_ | refine blk_alloc ?_ _)); refine blk_far ?_ NB192_194.out _; (with_reducible repeat (first | refine blk_drewN ?_ _ | refine blk_drew ?_ | refine blk_alloc ?_ _)); exact BK192.out⟩, ⟨by (with_reducible repeat (first | refine blk_drewN ?_ _ | refine blk_drew ?_ | refine blk_alloc ?_ _)); refine blk_put (cs := #[.string (a0.extract (a1 : Int).toNat (t193 : Int).toNat), .int .i64 x195001_2, .string (⟨#[]⟩ : ByteArray)]) ?_ 1 _ rfl; (with_reducible repeat (first | refine blk_drewN ?_ _ | refine blk_drew ?_ | refine blk_alloc ?_ _)); exact BK194.out⟩, ⟨by repeat (first | (with_reducible first | exact HB.out | apply below_alloc | apply pw_below_drewN | apply below_drew1 | refine below_set ?_ GE192.out | refine below_set ?_ GE194.out) | exact HB.out)⟩⟩
               ·rw [if_neg c33] at H
                have c33b0 : (t199.toList == (a0.extract (t197 : Int).toNat (t198 : Int).toNat).toList) = false := beq_eq_false_iff_ne.mpr c33
                have c33b1 : (t199.toList != (a0.extract (t197 : Int).toNat (t198 : Int).toNat).toList) = true := bne_iff_ne.mpr c33
                have H' := Aside0.mk H
                clear H
                try go_wp2
                have n0_ := Aside0.mk (blk_drew BK192.out)
                have n1_ := Aside0.mk (blk_drew BK194.out)
                have n2_ := Aside0.mk (below_drew1 HB.out)
                clear BK192
                clear BK194
                clear HB
                have BK192 := n0_
                have BK194 := n1_
                have HB := n2_
                clear n0_ n1_ n2_
                refine start_ (n := 7) (S := fun w' => True) (ds := []) #[false, false, false, false, false, false, false] (by kernel_rfl) rfl rfl trivial (fun hHeld => ?_)
                generalize wr.drew = w37 at BK192 BK194 HB hHeld ⊢
                refine pure_ (i := 0) (N := some 55) (v := ?_) (a' := ?_) #[true, false, false, false, false, false, false] rfl rfl (by kernel_rfl) (fun _ _ _ h => h) (Or.inl ⟨by rfl, ?_⟩) ?_ ?_
                rotate_left
                ·intro w'
                 go_simp
                 with_reducible rfl
                rotate_left
                ·simp only [Act.put, List.setIfInBounds_toArray, List.set_cons_zero, List.set_cons_succ, i64_w, i32_w]
                 rfl
                refine pure_ (i := 2) (N := some 57) (v := ?_) (a' := ?_) #[true, false, true, false, false, false, false] rfl rfl (by kernel_rfl) (fun _ _ _ h => h) (Or.inl ⟨by rfl, ?_⟩) ?_ ?_
                rotate_left
                ·intro w'
                 go_simp
                 with_reducible rfl
                rotate_left
                ·simp only [Act.put, List.setIfInBounds_toArray, List.set_cons_zero, List.set_cons_succ, i64_w, i32_w]
                 rfl
                refine pure_ (i := 3) (N := some 58) (v := ?_) (a' := ?_) #[true, false, true, true, false, false, false] rfl rfl (by kernel_rfl) (fun _ _ _ h => h) (Or.inl ⟨by rfl, ?_⟩) ?_ ?_
                rotate_left
                ·intro w'
                 go_simp
                 with_reducible rfl
                rotate_left
                ·simp only [Act.put, List.setIfInBounds_toArray, List.set_cons_zero, List.set_cons_succ, i64_w, i32_w]
                 rfl
                refine pure_ (i := 4) (N := some 59) (v := ?_) (a' := ?_) #[true, false, true, true, true, false, false] rfl rfl (by kernel_rfl) (fun _ _ _ h => h) (Or.inl ⟨by rfl, ?_⟩) ?_ ?_
                rotate_left
                ·intro w'
                 go_simp
                 with_reducible rfl
                rotate_left
                ·simp only [Act.put, List.setIfInBounds_toArray, List.set_cons_zero, List.set_cons_succ, i64_w, i32_w]
                 rfl
                refine pure_ (i := 5) (N := some 60) (v := ?_) (a' := ?_) #[true, false, true, true, true, true, false] rfl rfl (by kernel_rfl) (fun _ _ _ h => h) (Or.inl ⟨by rfl, ?_⟩) ?_ ?_
                rotate_left
                ·intro w'
                 go_simp
                 with_reducible rfl
                rotate_left
                ·simp only [Act.put, List.setIfInBounds_toArray, List.set_cons_zero, List.set_cons_succ, i64_w, i32_w]
                 rfl
                refine one_ (i := 1) (N := some 56) #[true, true, true, true, true, true, false] rfl rfl (by kernel_rfl) (by decide) (fun K hK => ?_)
                refine goes_ Tryd.func52 (by kernel_rfl) rfl #[.int .i64 x9_2] (by rfl) rfl rfl (by (try simp only [List.map_toArray, List.map_cons, List.map_nil]); first | done | rfl | (simp only [List.length_drop, List.length_take]; rfl) | (simp; done)) ?_
                with_reducible refine (depotref22_Sign.calls x9_2 t199 _ A29.out).mono ?_
                rintro e w' ⟨rfl, ⟨nd, rfl⟩⟩
                refine ⟨_, rfl, ?_⟩
                refine hK.out _ _ trivial (fun hHeld => ?_)
                clear hK K
                refine norm_ (a' := ?_) ?_ ?_
                rotate_left
                ·show Act.put _ (some 56) _ = _
                 simp only [Act.put, List.setIfInBounds_toArray, List.set_cons_zero, List.set_cons_succ, i64_w, i32_w]
                 rfl
                refine pure_ (i := 6) (N := some 61) (v := ?_) (a' := ?_) #[true, true, true, true, true, true, true] rfl rfl (by kernel_rfl) (fun _ _ _ h => h) (Or.inl ⟨by rfl, ?_⟩) ?_ ?_
                rotate_left
                ·intro w'
                 go_simp
                 with_reducible rfl
                rotate_left
                ·simp only [Act.put, List.setIfInBounds_toArray, List.set_cons_zero, List.set_cons_succ, i64_w, i32_w]
                 rfl
                refine done_ (by kernel_rfl) ?_
                try go_wp2
                go_roundg k2
                case measure => have := HJ12.out; have := HK2.out; omega
                case rel => exact ⟨(wrap64 (x9_2 + 1)), (x195001_2), (by first | rfl | (simp; done) | (simp [*]; done)), H', ⟨by have := HJ12.out; have := HK2.out; omega⟩, ⟨by (with_reducible repeat (first | refine blk_drewN ?_ _ | refine blk_drew ?_ | refine blk_alloc ?_ _)); exact BK192.out⟩, ⟨by (with_reducible repeat (first | refine blk_drewN ?_ _ | refine blk_drew ?_ | refine blk_alloc ?_ _)); exact BK194.out⟩, ⟨by repeat (first | (with_reducible first | exact HB.out | apply below_alloc | apply pw_below_drewN | apply below_drew1 | refine below_set ?_ GE192.out | refine below_set ?_ GE194.out) | exact HB.out)⟩⟩
              ·rw [if_neg c32] at H
               exact absurd H (by simp)
             ·rw [if_neg c31] at H
              exact absurd H (by simp)
            ·rw [if_neg c30] at H
             exact absurd H (by simp)
           ·rw [if_neg c28] at H
            have c28b0 : decide (x9_2 ≤ 5) = false := decide_eq_false c28
            clear c28
            by_cases c38 : x195001_2 = 0
            ·rw [if_pos c38] at H
             have c38b0 : (x195001_2 == 0) = true := beq_iff_eq.mpr c38
             have c38b1 : (x195001_2 != 0) = false := bne_eq_false_iff_eq.mpr c38
             clear c38
             simp only [Option.some.injEq, Prod.mk.injEq] at H
             obtain ⟨rfl, rfl, rfl, rfl, rfl⟩ := H
             have hnb39 := NB194_192.out
             have hnc39 := NB192_194.out
             have hcz40_0 : wr.cell? ⟨gb194, 0, none⟩ = some (.string (a0.extract (a1 : Int).toNat (t193 : Int).toNat)) := (blk_cell BK194.out 0).trans rfl
             have hcz40_1 : wr.cell? ⟨gb194, 1, none⟩ = some (.int .i64 x195001_2) := (blk_cell BK194.out 1).trans rfl
             have hcz40_2 : wr.cell? ⟨gb194, 2, none⟩ = some (.string (⟨#[]⟩ : ByteArray)) := (blk_cell BK194.out 2).trans rfl
             have hfz40_0 := blk_frozen BK194.out 0
             have hfz40_1 := blk_frozen BK194.out 1
             have hfz40_2 := blk_frozen BK194.out 2
             have hcz41_0 : wr.cell? ⟨gb192, 0, none⟩ = some (.string (⟨#[]⟩ : ByteArray)) := (blk_cell BK192.out 0).trans rfl
             have hcz41_1 : wr.cell? ⟨gb192, 1, none⟩ = some (.int .i64 0) := (blk_cell BK192.out 1).trans rfl
             have hcz41_2 : wr.cell? ⟨gb192, 2, none⟩ = some (.string (⟨#[]⟩ : ByteArray)) := (blk_cell BK192.out 2).trans rfl
             have hfz41_0 := blk_frozen BK192.out 0
             have hfz41_1 := blk_frozen BK192.out 1
             have hfz41_2 := blk_frozen BK192.out 2
             go_wp2
             refine bodyPost_ret (results_ctt rfl _ _ gb192 46 #[.string (⟨#[]⟩ : ByteArray), .int .i64 0, .string (⟨#[]⟩ : ByteArray)] (0, 0) _ rfl (by (with_reducible repeat (first | refine blk_drewN ?_ _ | refine blk_drew ?_ | refine blk_alloc ?_ _)); refine blk_put (cs := #[.string (⟨#[]⟩ : ByteArray), .int .i64 0, .string (⟨#[]⟩ : ByteArray)]) ?_ 2 _ rfl; (with_reducible repeat (first | refine blk_drewN ?_ _ | refine blk_drew ?_ | refine blk_alloc ?_ _)); refine blk_put (cs := #[.string (⟨#[]⟩ : ByteArray), .int .i64 0, .string (⟨#[]⟩ : ByteArray)]) ?_ 1 _ rfl; (with_reducible repeat (first | refine blk_drewN ?_ _ | refine blk_drew ?_ | refine blk_alloc ?_ _)); refine blk_put (cs := #[.string (⟨#[]⟩ : ByteArray), .int .i64 0, .string (⟨#[]⟩ : ByteArray)]) ?_ 0 _ rfl; (with_reducible repeat (first | refine blk_drewN ?_ _ | refine blk_drew ?_ | refine blk_alloc ?_ _)); exact BK192.out) Tryd.underlying46 rfl (by kernel_rfl)) rfl ?_
             exact ⟨by first | rfl | (simp [errW_none, errW_some] <;> rfl) | (simp [*, errW_none, errW_some] <;> rfl) | (simp [errW_none, errW_some, Go.Proofs.YtmocooihkobdjaaDoor.listNe]; done), by repeat (first | (with_reducible first | exact HB.out | apply below_alloc | apply pw_below_drewN | apply below_drew1 | refine below_set ?_ GE192.out | refine below_set ?_ GE194.out) | exact HB.out)⟩
            ·rw [if_neg c38] at H
             have c38b0 : (x195001_2 == 0) = false := beq_eq_false_iff_ne.mpr c38
             have c38b1 : (x195001_2 != 0) = true := bne_iff_ne.mpr c38
             replace H := Option.bind_eq_some_iff.mp H
             obtain ⟨t200, A420, H⟩ := H
             replace H : ((depotref22_word.f k2 a0 t200).bind fun t201 => (if t201 = t200 then (some ((⟨#[]⟩ : ByteArray), 0, (⟨#[]⟩ : ByteArray), 220, t200)) else (if 0 ≤ t200 then (if t200 ≤ t201 then (if t201 ≤ (a0.size : Int) then ((depotref20_Legal.f k2 (a0.extract (t200 : Int).toNat (t201 : Int).toNat)).bind fun t202 => (if t202 = true then ((depotref22_behind.f k2 a0 t201).bind fun t203 => (if t203 = (a0.size : Int) then (some ((⟨#[]⟩ : ByteArray), 0, (⟨#[]⟩ : ByteArray), 220, t203)) else (if 0 ≤ t203 then (if t203 < (a0.size : Int) then (if (bt a0 t203) = 41 then ((depotref22_behind.f k2 a0 (wrap64 (t203 + 1))).bind fun t204 => (some ((a0.extract (a1 : Int).toNat (t193 : Int).toNat), x195001_2, a0.extract (t200 : Int).toNat (t201 : Int).toNat, 0, t204))) else (some ((⟨#[]⟩ : ByteArray), 0, (⟨#[]⟩ : ByteArray), 220, t203))) else (none)) else (none)))) else (some ((⟨#[]⟩ : ByteArray), 0, (⟨#[]⟩ : ByteArray), 200, t200)))) else (none)) else (none)) else (none)))) = some (r1, r2, r3, r4, r5) := H
             have A42 := Aside0.mk A420
             clear A420
             replace H := Option.bind_eq_some_iff.mp H
             obtain ⟨t201, A430, H⟩ := H
             replace H : (if t201 = t200 then (some ((⟨#[]⟩ : ByteArray), 0, (⟨#[]⟩ : ByteArray), 220, t200)) else (if 0 ≤ t200 then (if t200 ≤ t201 then (if t201 ≤ (a0.size : Int) then ((depotref20_Legal.f k2 (a0.extract (t200 : Int).toNat (t201 : Int).toNat)).bind fun t202 => (if t202 = true then ((depotref22_behind.f k2 a0 t201).bind fun t203 => (if t203 = (a0.size : Int) then (some ((⟨#[]⟩ : ByteArray), 0, (⟨#[]⟩ : ByteArray), 220, t203)) else (if 0 ≤ t203 then (if t203 < (a0.size : Int) then (if (bt a0 t203) = 41 then ((depotref22_behind.f k2 a0 (wrap64 (t203 + 1))).bind fun t204 => (some ((a0.extract (a1 : Int).toNat (t193 : Int).toNat), x195001_2, a0.extract (t200 : Int).toNat (t201 : Int).toNat, 0, t204))) else (some ((⟨#[]⟩ : ByteArray), 0, (⟨#[]⟩ : ByteArray), 220, t203))) else (none)) else (none)))) else (some ((⟨#[]⟩ : ByteArray), 0, (⟨#[]⟩ : ByteArray), 200, t200)))) else (none)) else (none)) else (none))) = some (r1, r2, r3, r4, r5) := H
             have A43 := Aside0.mk A430
             clear A430
             by_cases c44 : t201 = t200
             ·rw [if_pos c44] at H
              have c44b0 : (t201 == t200) = true := beq_iff_eq.mpr c44
              have c44b1 : (t201 != t200) = false := bne_eq_false_iff_eq.mpr c44
              clear c44
              simp only [Option.some.injEq, Prod.mk.injEq] at H
              obtain ⟨rfl, rfl, rfl, rfl, rfl⟩ := H
              have hnb45 := NB194_192.out
              have hnc45 := NB192_194.out
              have hcz46_0 : wr.cell? ⟨gb194, 0, none⟩ = some (.string (a0.extract (a1 : Int).toNat (t193 : Int).toNat)) := (blk_cell BK194.out 0).trans rfl
              have hcz46_1 : wr.cell? ⟨gb194, 1, none⟩ = some (.int .i64 x195001_2) := (blk_cell BK194.out 1).trans rfl
              have hcz46_2 : wr.cell? ⟨gb194, 2, none⟩ = some (.string (⟨#[]⟩ : ByteArray)) := (blk_cell BK194.out 2).trans rfl
              have hfz46_0 := blk_frozen BK194.out 0
              have hfz46_1 := blk_frozen BK194.out 1
              have hfz46_2 := blk_frozen BK194.out 2
              go_wp2_with (first | ((with_reducible refine gate_callee (f := 110) rfl ?_); refine goesL_ (some 71) rfl rfl Tryd.func110 (by kernel_rfl) rfl #[.string a0, .int .i64 t198] rfl (by (try simp only [List.map_toArray, List.map_cons, List.map_nil]); first | done | rfl | (simp only [List.length_drop, List.length_take]; rfl) | (simp; done)) ?_; (with_reducible refine (depotref22_behind.calls k2 a0 t198 t200 _ A42.out).mono ?_); rintro e w' ⟨rfl, ⟨nd, rfl⟩⟩; refine ⟨_, rfl, ?_⟩; (try (rw [drewN_self wr]; generalize hq_ : World.drewN wr _ = wr; have n0_ : Aside0 (wr.heap[gb192]? = some (.cells #[.string (⟨#[]⟩ : ByteArray), .int .i64 0, .string (⟨#[]⟩ : ByteArray)] 46 (0, 0))) := ⟨by rw [← hq_]; exact (Bq BK192.out)⟩; have n1_ : Aside0 (wr.heap[gb194]? = some (.cells #[.string (a0.extract (a1 : Int).toNat (t193 : Int).toNat), .int .i64 x195001_2, .string (⟨#[]⟩ : ByteArray)] 46 (0, 0))) := ⟨by rw [← hq_]; exact (Bq BK194.out)⟩; have n2_ : Aside0 (Below w.heap.size w wr) := ⟨by rw [← hq_]; exact (W2 HB.out GE192.out GE194.out)⟩; clear BK192 BK194 HB hq_; have BK192 := n0_; have BK194 := n1_; have HB := n2_; clear n0_ n1_ n2_)); (try (have hcu192_0 : wr.cell? ⟨gb192, 0, none⟩ = some (.string (⟨#[]⟩ : ByteArray)) := (blk_cell BK192.out 0).trans rfl; have hfu192_0 := blk_frozen BK192.out 0; have hcu192_1 : wr.cell? ⟨gb192, 1, none⟩ = some (.int .i64 0) := (blk_cell BK192.out 1).trans rfl; have hfu192_1 := blk_frozen BK192.out 1; have hcu192_2 : wr.cell? ⟨gb192, 2, none⟩ = some (.string (⟨#[]⟩ : ByteArray)) := (blk_cell BK192.out 2).trans rfl; have hfu192_2 := blk_frozen BK192.out 2)); (try (have hcu194_0 : wr.cell? ⟨gb194, 0, none⟩ = some (.string (a0.extract (a1 : Int).toNat (t193 : Int).toNat)) := (blk_cell BK194.out 0).trans rfl; have hfu194_0 := blk_frozen BK194.out 0; have hcu194_1 : wr.cell? ⟨gb194, 1, none⟩ = some (.int .i64 x195001_2) := (blk_cell BK194.out 1).trans rfl; have hfu194_1 := blk_frozen BK194.out 1; have hcu194_2 : wr.cell? ⟨gb194, 2, none⟩ = some (.string (⟨#[]⟩ : ByteArray)) := (blk_cell BK194.out 2).trans rfl; have hfu194_2 := blk_frozen BK194.out 2))) | ((with_reducible refine gate_callee (f := 123) rfl ?_); refine goesL_ (some 74) rfl rfl Tryd.func123 (by kernel_rfl) rfl #[.string a0, .int .i64 t200] rfl (by (try simp only [List.map_toArray, List.map_cons, List.map_nil]); first | done | rfl | (simp only [List.length_drop, List.length_take]; rfl) | (simp; done)) ?_; (with_reducible refine (depotref22_word.calls k2 a0 t200 t201 _ A43.out).mono ?_); rintro e w' ⟨rfl, ⟨nd, rfl⟩⟩; refine ⟨_, rfl, ?_⟩; (try (rw [drewN_self wr]; generalize hq_ : World.drewN wr _ = wr; have n0_ : Aside0 (wr.heap[gb192]? = some (.cells #[.string (⟨#[]⟩ : ByteArray), .int .i64 0, .string (⟨#[]⟩ : ByteArray)] 46 (0, 0))) := ⟨by rw [← hq_]; exact (Bq BK192.out)⟩; have n1_ : Aside0 (wr.heap[gb194]? = some (.cells #[.string (a0.extract (a1 : Int).toNat (t193 : Int).toNat), .int .i64 x195001_2, .string (⟨#[]⟩ : ByteArray)] 46 (0, 0))) := ⟨by rw [← hq_]; exact (Bq BK194.out)⟩; have n2_ : Aside0 (Below w.heap.size w wr) := ⟨by rw [← hq_]; exact (W2 HB.out GE192.out GE194.out)⟩; clear BK192 BK194 HB hq_; have BK192 := n0_; have BK194 := n1_; have HB := n2_; clear n0_ n1_ n2_)); (try (have hcu192_0 : wr.cell? ⟨gb192, 0, none⟩ = some (.string (⟨#[]⟩ : ByteArray)) := (blk_cell BK192.out 0).trans rfl; have hfu192_0 := blk_frozen BK192.out 0; have hcu192_1 : wr.cell? ⟨gb192, 1, none⟩ = some (.int .i64 0) := (blk_cell BK192.out 1).trans rfl; have hfu192_1 := blk_frozen BK192.out 1; have hcu192_2 : wr.cell? ⟨gb192, 2, none⟩ = some (.string (⟨#[]⟩ : ByteArray)) := (blk_cell BK192.out 2).trans rfl; have hfu192_2 := blk_frozen BK192.out 2)); (try (have hcu194_0 : wr.cell? ⟨gb194, 0, none⟩ = some (.string (a0.extract (a1 : Int).toNat (t193 : Int).toNat)) := (blk_cell BK194.out 0).trans rfl; have hfu194_0 := blk_frozen BK194.out 0; have hcu194_1 : wr.cell? ⟨gb194, 1, none⟩ = some (.int .i64 x195001_2) := (blk_cell BK194.out 1).trans rfl; have hfu194_1 := blk_frozen BK194.out 1; have hcu194_2 : wr.cell? ⟨gb194, 2, none⟩ = some (.string (⟨#[]⟩ : ByteArray)) := (blk_cell BK194.out 2).trans rfl; have hfu194_2 := blk_frozen BK194.out 2)); have hcz47_0 : wr.cell? ⟨gb192, 0, none⟩ = some (.string (⟨#[]⟩ : ByteArray)) := (blk_cell BK192.out 0).trans rfl; have hcz47_1 : wr.cell? ⟨gb192, 1, none⟩ = some (.int .i64 0) := (blk_cell BK192.out 1).trans rfl; have hcz47_2 : wr.cell? ⟨gb192, 2, none⟩ = some (.string (⟨#[]⟩ : ByteArray)) := (blk_cell BK192.out 2).trans rfl; have hfz47_0 := blk_frozen BK192.out 0; have hfz47_1 := blk_frozen BK192.out 1; have hfz47_2 := blk_frozen BK192.out 2))
              refine bodyPost_ret (results_ctt rfl _ _ gb192 46 #[.string (⟨#[]⟩ : ByteArray), .int .i64 0, .string (⟨#[]⟩ : ByteArray)] (0, 0) _ rfl (by (with_reducible repeat (first | refine blk_drewN ?_ _ | refine blk_drew ?_ | refine blk_alloc ?_ _)); refine blk_put (cs := #[.string (⟨#[]⟩ : ByteArray), .int .i64 0, .string (⟨#[]⟩ : ByteArray)]) ?_ 2 _ rfl; (with_reducible repeat (first | refine blk_drewN ?_ _ | refine blk_drew ?_ | refine blk_alloc ?_ _)); refine blk_put (cs := #[.string (⟨#[]⟩ : ByteArray), .int .i64 0, .string (⟨#[]⟩ : ByteArray)]) ?_ 1 _ rfl; (with_reducible repeat (first | refine blk_drewN ?_ _ | refine blk_drew ?_ | refine blk_alloc ?_ _)); refine blk_put (cs := #[.string (⟨#[]⟩ : ByteArray), .int .i64 0, .string (⟨#[]⟩ : ByteArray)]) ?_ 0 _ rfl; (with_reducible repeat (first | refine blk_drewN ?_ _ | refine blk_drew ?_ | refine blk_alloc ?_ _)); exact BK192.out) Tryd.underlying46 rfl (by kernel_rfl)) rfl ?_
              exact ⟨by first | rfl | (simp [errW_none, errW_some] <;> rfl) | (simp [*, errW_none, errW_some] <;> rfl) | (simp [errW_none, errW_some, Go.Proofs.YtmocooihkobdjaaDoor.listNe]; done), by repeat (first | (with_reducible first | exact HB.out | apply below_alloc | apply pw_below_drewN | apply below_drew1 | refine below_set ?_ GE192.out | refine below_set ?_ GE194.out) | exact HB.out)⟩
             ·rw [if_neg c44] at H
              have c44b0 : (t201 == t200) = false := beq_eq_false_iff_ne.mpr c44
              have c44b1 : (t201 != t200) = true := bne_iff_ne.mpr c44
              by_cases c48 : 0 ≤ t200
              ·rw [if_pos c48] at H
               have c48b0 := eq_true c48
               have c48b1 : decide (0 ≤ t200) = true := decide_eq_true c48
               clear c48
               by_cases c49 : t200 ≤ t201
               ·rw [if_pos c49] at H
                have c49b0 := eq_true c49
                have c49b1 : decide (t200 ≤ t201) = true := decide_eq_true c49
                clear c49
                by_cases c50 : t201 ≤ (a0.size : Int)
                ·rw [if_pos c50] at H
                 have c50b0 := eq_true c50
                 have c50b1 : decide (t201 ≤ (a0.size : Int)) = true := decide_eq_true c50
                 clear c50
                 replace H := Option.bind_eq_some_iff.mp H
                 obtain ⟨t202, A510, H⟩ := H
                 replace H : (if t202 = true then ((depotref22_behind.f k2 a0 t201).bind fun t203 => (if t203 = (a0.size : Int) then (some ((⟨#[]⟩ : ByteArray), 0, (⟨#[]⟩ : ByteArray), 220, t203)) else (if 0 ≤ t203 then (if t203 < (a0.size : Int) then (if (bt a0 t203) = 41 then ((depotref22_behind.f k2 a0 (wrap64 (t203 + 1))).bind fun t204 => (some ((a0.extract (a1 : Int).toNat (t193 : Int).toNat), x195001_2, a0.extract (t200 : Int).toNat (t201 : Int).toNat, 0, t204))) else (some ((⟨#[]⟩ : ByteArray), 0, (⟨#[]⟩ : ByteArray), 220, t203))) else (none)) else (none)))) else (some ((⟨#[]⟩ : ByteArray), 0, (⟨#[]⟩ : ByteArray), 200, t200))) = some (r1, r2, r3, r4, r5) := H
                 have A51 := Aside0.mk A510
                 clear A510
                 by_cases c52 : t202 = true
                 ·subst c52
                  have H1 : ((depotref22_behind.f k2 a0 t201).bind fun t203 => (if t203 = (a0.size : Int) then (some ((⟨#[]⟩ : ByteArray), 0, (⟨#[]⟩ : ByteArray), 220, t203)) else (if 0 ≤ t203 then (if t203 < (a0.size : Int) then (if (bt a0 t203) = 41 then ((depotref22_behind.f k2 a0 (wrap64 (t203 + 1))).bind fun t204 => (some ((a0.extract (a1 : Int).toNat (t193 : Int).toNat), x195001_2, a0.extract (t200 : Int).toNat (t201 : Int).toNat, 0, t204))) else (some ((⟨#[]⟩ : ByteArray), 0, (⟨#[]⟩ : ByteArray), 220, t203))) else (none)) else (none)))) = some (r1, r2, r3, r4, r5) := by rw [if_pos rfl] at H; exact H
                  clear H
                  have H := H1
                  clear H1
                  replace H := Option.bind_eq_some_iff.mp H
                  obtain ⟨t203, A530, H⟩ := H
                  replace H : (if t203 = (a0.size : Int) then (some ((⟨#[]⟩ : ByteArray), 0, (⟨#[]⟩ : ByteArray), 220, t203)) else (if 0 ≤ t203 then (if t203 < (a0.size : Int) then (if (bt a0 t203) = 41 then ((depotref22_behind.f k2 a0 (wrap64 (t203 + 1))).bind fun t204 => (some ((a0.extract (a1 : Int).toNat (t193 : Int).toNat), x195001_2, a0.extract (t200 : Int).toNat (t201 : Int).toNat, 0, t204))) else (some ((⟨#[]⟩ : ByteArray), 0, (⟨#[]⟩ : ByteArray), 220, t203))) else (none)) else (none))) = some (r1, r2, r3, r4, r5) := H
                  have A53 := Aside0.mk A530
                  clear A530
                  by_cases c54 : t203 = (a0.size : Int)
                  ·rw [if_pos c54] at H
                   have c54b0 : (t203 == (a0.size : Int)) = true := beq_iff_eq.mpr c54
                   have c54b1 : (t203 != (a0.size : Int)) = false := bne_eq_false_iff_eq.mpr c54
                   clear c54
                   simp only [Option.some.injEq, Prod.mk.injEq] at H
                   obtain ⟨rfl, rfl, rfl, rfl, rfl⟩ := H
                   have hnb55 := NB194_192.out
                   have hnc55 := NB192_194.out
                   have hcz56_0 : wr.cell? ⟨gb194, 0, none⟩ = some (.string (a0.extract (a1 : Int).toNat (t193 : Int).toNat)) := (blk_cell BK194.out 0).trans rfl
                   have hcz56_1 : wr.cell? ⟨gb194, 1, none⟩ = some (.int .i64 x195001_2) := (blk_cell BK194.out 1).trans rfl
                   have hcz56_2 : wr.cell? ⟨gb194, 2, none⟩ = some (.string (⟨#[]⟩ : ByteArray)) := (blk_cell BK194.out 2).trans rfl
                   have hfz56_0 := blk_frozen BK194.out 0
                   have hfz56_1 := blk_frozen BK194.out 1
                   have hfz56_2 := blk_frozen BK194.out 2
                   go_wp2_with (first | ((with_reducible refine gate_callee (f := 110) rfl ?_); refine goesL_ (some 71) rfl rfl Tryd.func110 (by kernel_rfl) rfl #[.string a0, .int .i64 t198] rfl (by (try simp only [List.map_toArray, List.map_cons, List.map_nil]); first | done | rfl | (simp only [List.length_drop, List.length_take]; rfl) | (simp; done)) ?_; (with_reducible refine (depotref22_behind.calls k2 a0 t198 t200 _ A42.out).mono ?_); rintro e w' ⟨rfl, ⟨nd, rfl⟩⟩; refine ⟨_, rfl, ?_⟩; (try (rw [drewN_self wr]; generalize hq_ : World.drewN wr _ = wr; have n0_ : Aside0 (wr.heap[gb192]? = some (.cells #[.string (⟨#[]⟩ : ByteArray), .int .i64 0, .string (⟨#[]⟩ : ByteArray)] 46 (0, 0))) := ⟨by rw [← hq_]; exact (Bq BK192.out)⟩; have n1_ : Aside0 (wr.heap[gb194]? = some (.cells #[.string (a0.extract (a1 : Int).toNat (t193 : Int).toNat), .int .i64 x195001_2, .string (⟨#[]⟩ : ByteArray)] 46 (0, 0))) := ⟨by rw [← hq_]; exact (Bq BK194.out)⟩; have n2_ : Aside0 (Below w.heap.size w wr) := ⟨by rw [← hq_]; exact (W2 HB.out GE192.out GE194.out)⟩; clear BK192 BK194 HB hq_; have BK192 := n0_; have BK194 := n1_; have HB := n2_; clear n0_ n1_ n2_)); (try (have hcu192_0 : wr.cell? ⟨gb192, 0, none⟩ = some (.string (⟨#[]⟩ : ByteArray)) := (blk_cell BK192.out 0).trans rfl; have hfu192_0 := blk_frozen BK192.out 0; have hcu192_1 : wr.cell? ⟨gb192, 1, none⟩ = some (.int .i64 0) := (blk_cell BK192.out 1).trans rfl; have hfu192_1 := blk_frozen BK192.out 1; have hcu192_2 : wr.cell? ⟨gb192, 2, none⟩ = some (.string (⟨#[]⟩ : ByteArray)) := (blk_cell BK192.out 2).trans rfl; have hfu192_2 := blk_frozen BK192.out 2)); (try (have hcu194_0 : wr.cell? ⟨gb194, 0, none⟩ = some (.string (a0.extract (a1 : Int).toNat (t193 : Int).toNat)) := (blk_cell BK194.out 0).trans rfl; have hfu194_0 := blk_frozen BK194.out 0; have hcu194_1 : wr.cell? ⟨gb194, 1, none⟩ = some (.int .i64 x195001_2) := (blk_cell BK194.out 1).trans rfl; have hfu194_1 := blk_frozen BK194.out 1; have hcu194_2 : wr.cell? ⟨gb194, 2, none⟩ = some (.string (⟨#[]⟩ : ByteArray)) := (blk_cell BK194.out 2).trans rfl; have hfu194_2 := blk_frozen BK194.out 2))) | ((with_reducible refine gate_callee (f := 123) rfl ?_); refine goesL_ (some 74) rfl rfl Tryd.func123 (by kernel_rfl) rfl #[.string a0, .int .i64 t200] rfl (by (try simp only [List.map_toArray, List.map_cons, List.map_nil]); first | done | rfl | (simp only [List.length_drop, List.length_take]; rfl) | (simp; done)) ?_; (with_reducible refine (depotref22_word.calls k2 a0 t200 t201 _ A43.out).mono ?_); rintro e w' ⟨rfl, ⟨nd, rfl⟩⟩; refine ⟨_, rfl, ?_⟩; (try (rw [drewN_self wr]; generalize hq_ : World.drewN wr _ = wr; have n0_ : Aside0 (wr.heap[gb192]? = some (.cells #[.string (⟨#[]⟩ : ByteArray), .int .i64 0, .string (⟨#[]⟩ : ByteArray)] 46 (0, 0))) := ⟨by rw [← hq_]; exact (Bq BK192.out)⟩; have n1_ : Aside0 (wr.heap[gb194]? = some (.cells #[.string (a0.extract (a1 : Int).toNat (t193 : Int).toNat), .int .i64 x195001_2, .string (⟨#[]⟩ : ByteArray)] 46 (0, 0))) := ⟨by rw [← hq_]; exact (Bq BK194.out)⟩; have n2_ : Aside0 (Below w.heap.size w wr) := ⟨by rw [← hq_]; exact (W2 HB.out GE192.out GE194.out)⟩; clear BK192 BK194 HB hq_; have BK192 := n0_; have BK194 := n1_; have HB := n2_; clear n0_ n1_ n2_)); (try (have hcu192_0 : wr.cell? ⟨gb192, 0, none⟩ = some (.string (⟨#[]⟩ : ByteArray)) := (blk_cell BK192.out 0).trans rfl; have hfu192_0 := blk_frozen BK192.out 0; have hcu192_1 : wr.cell? ⟨gb192, 1, none⟩ = some (.int .i64 0) := (blk_cell BK192.out 1).trans rfl; have hfu192_1 := blk_frozen BK192.out 1; have hcu192_2 : wr.cell? ⟨gb192, 2, none⟩ = some (.string (⟨#[]⟩ : ByteArray)) := (blk_cell BK192.out 2).trans rfl; have hfu192_2 := blk_frozen BK192.out 2)); (try (have hcu194_0 : wr.cell? ⟨gb194, 0, none⟩ = some (.string (a0.extract (a1 : Int).toNat (t193 : Int).toNat)) := (blk_cell BK194.out 0).trans rfl; have hfu194_0 := blk_frozen BK194.out 0; have hcu194_1 : wr.cell? ⟨gb194, 1, none⟩ = some (.int .i64 x195001_2) := (blk_cell BK194.out 1).trans rfl; have hfu194_1 := blk_frozen BK194.out 1; have hcu194_2 : wr.cell? ⟨gb194, 2, none⟩ = some (.string (⟨#[]⟩ : ByteArray)) := (blk_cell BK194.out 2).trans rfl; have hfu194_2 := blk_frozen BK194.out 2))) | ((with_reducible refine gate_callee (f := 53) rfl ?_); refine goesL_ (some 87) rfl rfl Tryd.func53 (by kernel_rfl) rfl #[.string (a0.extract (t200 : Int).toNat (t201 : Int).toNat)] rfl (by (try simp only [List.map_toArray, List.map_cons, List.map_nil]); first | done | rfl | (simp only [List.length_drop, List.length_take]; rfl) | (simp; done)) ?_; (with_reducible refine (depotref20_Legal.calls k2 (a0.extract (t200 : Int).toNat (t201 : Int).toNat) true _ A51.out).mono ?_); rintro e w57 ⟨rfl, hb⟩; refine ⟨_, rfl, ?_⟩; have n0_ := Aside0.mk (blk_below (g := gb192) (o := .cells #[.string (⟨#[]⟩ : ByteArray), .int .i64 0, .string (⟨#[]⟩ : ByteArray)] 46 (0, 0)) (by (with_reducible repeat (first | refine blk_drewN ?_ _ | refine blk_drew ?_ | refine blk_alloc ?_ _)); refine blk_far ?_ NB192_194.out _; (with_reducible repeat (first | refine blk_drewN ?_ _ | refine blk_drew ?_ | refine blk_alloc ?_ _)); exact BK192.out) hb); have n1_ := Aside0.mk (blk_below (g := gb194) (o := .cells #[.string (a0.extract (a1 : Int).toNat (t193 : Int).toNat), .int .i64 x195001_2, .string (a0.extract (t200 : Int).toNat (t201 : Int).toNat)] 46 (0, 0)) (by (with_reducible repeat (first | refine blk_drewN ?_ _ | refine blk_drew ?_ | refine blk_alloc ?_ _)); refine blk_put (cs := #[.string (a0.extract (a1 : Int).toNat (t193 : Int).toNat), .int .i64 x195001_2, .string (⟨#[]⟩ : ByteArray)]) ?_ 2 _ rfl; (with_reducible repeat (first | refine blk_drewN ?_ _ | refine blk_drew ?_ | refine blk_alloc ?_ _)); exact BK194.out) hb); have n2_ := Aside0.mk (below_step (W2 HB.out GE192.out GE194.out) hb); clear BK192; clear BK194; clear HB; have BK192 := n0_; have BK194 := n1_; have HB := n2_; clear n0_ n1_ n2_; (try clear hb); (try clear hb2); (try clear hk); (try clear hi)) | ((with_reducible refine gate_callee (f := 110) rfl ?_); refine goesL_ (some 93) rfl rfl Tryd.func110 (by kernel_rfl) rfl #[.string a0, .int .i64 t201] rfl (by (try simp only [List.map_toArray, List.map_cons, List.map_nil]); first | done | rfl | (simp only [List.length_drop, List.length_take]; rfl) | (simp; done)) ?_; (with_reducible refine (depotref22_behind.calls k2 a0 t201 t203 _ A53.out).mono ?_); rintro e w' ⟨rfl, ⟨nd, rfl⟩⟩; refine ⟨_, rfl, ?_⟩; (try (rw [drewN_self w57]; generalize hq_ : World.drewN w57 _ = w57; have n0_ : Aside0 (w57.heap[gb192]? = some (.cells #[.string (⟨#[]⟩ : ByteArray), .int .i64 0, .string (⟨#[]⟩ : ByteArray)] 46 (0, 0))) := ⟨by rw [← hq_]; exact (Bq BK192.out)⟩; have n1_ : Aside0 (w57.heap[gb194]? = some (.cells #[.string (a0.extract (a1 : Int).toNat (t193 : Int).toNat), .int .i64 x195001_2, .string (a0.extract (t200 : Int).toNat (t201 : Int).toNat)] 46 (0, 0))) := ⟨by rw [← hq_]; exact (Bq BK194.out)⟩; have n2_ : Aside0 (Below w.heap.size w w57) := ⟨by rw [← hq_]; exact (W2 HB.out GE192.out GE194.out)⟩; clear BK192 BK194 HB hq_; have BK192 := n0_; have BK194 := n1_; have HB := n2_; clear n0_ n1_ n2_)); (try (have hcu192_0 : w57.cell? ⟨gb192, 0, none⟩ = some (.string (⟨#[]⟩ : ByteArray)) := (blk_cell BK192.out 0).trans rfl; have hfu192_0 := blk_frozen BK192.out 0; have hcu192_1 : w57.cell? ⟨gb192, 1, none⟩ = some (.int .i64 0) := (blk_cell BK192.out 1).trans rfl; have hfu192_1 := blk_frozen BK192.out 1; have hcu192_2 : w57.cell? ⟨gb192, 2, none⟩ = some (.string (⟨#[]⟩ : ByteArray)) := (blk_cell BK192.out 2).trans rfl; have hfu192_2 := blk_frozen BK192.out 2)); (try (have hcu194_0 : w57.cell? ⟨gb194, 0, none⟩ = some (.string (a0.extract (a1 : Int).toNat (t193 : Int).toNat)) := (blk_cell BK194.out 0).trans rfl; have hfu194_0 := blk_frozen BK194.out 0; have hcu194_1 : w57.cell? ⟨gb194, 1, none⟩ = some (.int .i64 x195001_2) := (blk_cell BK194.out 1).trans rfl; have hfu194_1 := blk_frozen BK194.out 1; have hcu194_2 : w57.cell? ⟨gb194, 2, none⟩ = some (.string (a0.extract (t200 : Int).toNat (t201 : Int).toNat)) := (blk_cell BK194.out 2).trans rfl; have hfu194_2 := blk_frozen BK194.out 2)); have hcz58_0 : w57.cell? ⟨gb192, 0, none⟩ = some (.string (⟨#[]⟩ : ByteArray)) := (blk_cell BK192.out 0).trans rfl; have hcz58_1 : w57.cell? ⟨gb192, 1, none⟩ = some (.int .i64 0) := (blk_cell BK192.out 1).trans rfl; have hcz58_2 : w57.cell? ⟨gb192, 2, none⟩ = some (.string (⟨#[]⟩ : ByteArray)) := (blk_cell BK192.out 2).trans rfl; have hfz58_0 := blk_frozen BK192.out 0; have hfz58_1 := blk_frozen BK192.out 1; have hfz58_2 := blk_frozen BK192.out 2))
                   refine bodyPost_ret (results_ctt rfl _ _ gb192 46 #[.string (⟨#[]⟩ : ByteArray), .int .i64 0, .string (⟨#[]⟩ : ByteArray)] (0, 0) _ rfl (by (with_reducible repeat (first | refine blk_drewN ?_ _ | refine blk_drew ?_ | refine blk_alloc ?_ _)); refine blk_put (cs := #[.string (⟨#[]⟩ : ByteArray), .int .i64 0, .string (⟨#[]⟩ : ByteArray)]) ?_ 2 _ rfl; (with_reducible repeat (first | refine blk_drewN ?_ _ | refine blk_drew ?_ | refine blk_alloc ?_ _)); refine blk_put (cs := #[.string (⟨#[]⟩ : ByteArray), .int .i64 0, .string (⟨#[]⟩ : ByteArray)]) ?_ 1 _ rfl; (with_reducible repeat (first | refine blk_drewN ?_ _ | refine blk_drew ?_ | refine blk_alloc ?_ _)); refine blk_put (cs := #[.string (⟨#[]⟩ : ByteArray), .int .i64 0, .string (⟨#[]⟩ : ByteArray)]) ?_ 0 _ rfl; (with_reducible repeat (first | refine blk_drewN ?_ _ | refine blk_drew ?_ | refine blk_alloc ?_ _)); exact BK192.out) Tryd.underlying46 rfl (by kernel_rfl)) rfl ?_
                   exact ⟨by first | rfl | (simp [errW_none, errW_some] <;> rfl) | (simp [*, errW_none, errW_some] <;> rfl) | (simp [errW_none, errW_some, Go.Proofs.YtmocooihkobdjaaDoor.listNe]; done), by repeat (first | (with_reducible first | exact HB.out | apply below_alloc | apply pw_below_drewN | apply below_drew1 | refine below_set ?_ GE192.out | refine below_set ?_ GE194.out) | exact HB.out)⟩
                  ·rw [if_neg c54] at H
                   have c54b0 : (t203 == (a0.size : Int)) = false := beq_eq_false_iff_ne.mpr c54
                   have c54b1 : (t203 != (a0.size : Int)) = true := bne_iff_ne.mpr c54
                   by_cases c59 : 0 ≤ t203
                   ·rw [if_pos c59] at H
                    have c59b0 : decide (0 ≤ t203) = true := decide_eq_true c59
                    clear c59
                    by_cases c60 : t203 < (a0.size : Int)
                    ·rw [if_pos c60] at H
                     have c60b0 : decide (t203 < (a0.size : Int)) = true := decide_eq_true c60
                     clear c60
                     by_cases c62 : (bt a0 t203) = 41
                     ·rw [if_pos c62] at H
                      have c62b0 : ((bt a0 t203) == 41) = true := beq_iff_eq.mpr c62
                      have c62b1 : ((bt a0 t203) != 41) = false := bne_eq_false_iff_eq.mpr c62
                      clear c62
                      replace H := Option.bind_eq_some_iff.mp H
                      obtain ⟨t204, A630, H⟩ := H
                      replace H : (some ((a0.extract (a1 : Int).toNat (t193 : Int).toNat), x195001_2, a0.extract (t200 : Int).toNat (t201 : Int).toNat, 0, t204)) = some (r1, r2, r3, r4, r5) := H
                      have A63 := Aside0.mk A630
                      clear A630
                      simp only [Option.some.injEq, Prod.mk.injEq] at H
                      obtain ⟨rfl, rfl, rfl, rfl, rfl⟩ := H
                      have hnb64 := NB194_192.out
                      have hnc64 := NB192_194.out
                      have hcz65_0 : wr.cell? ⟨gb194, 0, none⟩ = some (.string (a0.extract (a1 : Int).toNat (t193 : Int).toNat)) := (blk_cell BK194.out 0).trans rfl
                      have hcz65_1 : wr.cell? ⟨gb194, 1, none⟩ = some (.int .i64 x195001_2) := (blk_cell BK194.out 1).trans rfl
                      have hcz65_2 : wr.cell? ⟨gb194, 2, none⟩ = some (.string (⟨#[]⟩ : ByteArray)) := (blk_cell BK194.out 2).trans rfl
                      have hfz65_0 := blk_frozen BK194.out 0
                      have hfz65_1 := blk_frozen BK194.out 1
                      have hfz65_2 := blk_frozen BK194.out 2
                      try go_wp2_with (first | ((with_reducible refine gate_callee (f := 110) rfl ?_); refine goesL_ (some 71) rfl rfl Tryd.func110 (by kernel_rfl) rfl #[.string a0, .int .i64 t198] rfl (by (try simp only [List.map_toArray, List.map_cons, List.map_nil]); first | done | rfl | (simp only [List.length_drop, List.length_take]; rfl) | (simp; done)) ?_; (with_reducible refine (depotref22_behind.calls k2 a0 t198 t200 _ A42.out).mono ?_); rintro e w' ⟨rfl, ⟨nd, rfl⟩⟩; refine ⟨_, rfl, ?_⟩; (try (rw [drewN_self wr]; generalize hq_ : World.drewN wr _ = wr; have n0_ : Aside0 (wr.heap[gb192]? = some (.cells #[.string (⟨#[]⟩ : ByteArray), .int .i64 0, .string (⟨#[]⟩ : ByteArray)] 46 (0, 0))) := ⟨by rw [← hq_]; exact (Bq BK192.out)⟩; have n1_ : Aside0 (wr.heap[gb194]? = some (.cells #[.string (a0.extract (a1 : Int).toNat (t193 : Int).toNat), .int .i64 x195001_2, .string (⟨#[]⟩ : ByteArray)] 46 (0, 0))) := ⟨by rw [← hq_]; exact (Bq BK194.out)⟩; have n2_ : Aside0 (Below w.heap.size w wr) := ⟨by rw [← hq_]; exact (W2 HB.out GE192.out GE194.out)⟩; clear BK192 BK194 HB hq_; have BK192 := n0_; have BK194 := n1_; have HB := n2_; clear n0_ n1_ n2_)); (try (have hcu192_0 : wr.cell? ⟨gb192, 0, none⟩ = some (.string (⟨#[]⟩ : ByteArray)) := (blk_cell BK192.out 0).trans rfl; have hfu192_0 := blk_frozen BK192.out 0; have hcu192_1 : wr.cell? ⟨gb192, 1, none⟩ = some (.int .i64 0) := (blk_cell BK192.out 1).trans rfl; have hfu192_1 := blk_frozen BK192.out 1; have hcu192_2 : wr.cell? ⟨gb192, 2, none⟩ = some (.string (⟨#[]⟩ : ByteArray)) := (blk_cell BK192.out 2).trans rfl; have hfu192_2 := blk_frozen BK192.out 2)); (try (have hcu194_0 : wr.cell? ⟨gb194, 0, none⟩ = some (.string (a0.extract (a1 : Int).toNat (t193 : Int).toNat)) := (blk_cell BK194.out 0).trans rfl; have hfu194_0 := blk_frozen BK194.out 0; have hcu194_1 : wr.cell? ⟨gb194, 1, none⟩ = some (.int .i64 x195001_2) := (blk_cell BK194.out 1).trans rfl; have hfu194_1 := blk_frozen BK194.out 1; have hcu194_2 : wr.cell? ⟨gb194, 2, none⟩ = some (.string (⟨#[]⟩ : ByteArray)) := (blk_cell BK194.out 2).trans rfl; have hfu194_2 := blk_frozen BK194.out 2))) | ((with_reducible refine gate_callee (f := 123) rfl ?_); refine goesL_ (some 74) rfl rfl Tryd.func123 (by kernel_rfl) rfl #[.string a0, .int .i64 t200] rfl (by (try simp only [List.map_toArray, List.map_cons, List.map_nil]); first | done | rfl | (simp only [List.length_drop, List.length_take]; rfl) | (simp; done)) ?_; (with_reducible refine (depotref22_word.calls k2 a0 t200 t201 _ A43.out).mono ?_); rintro e w' ⟨rfl, ⟨nd, rfl⟩⟩; refine ⟨_, rfl, ?_⟩; (try (rw [drewN_self wr]; generalize hq_ : World.drewN wr _ = wr; have n0_ : Aside0 (wr.heap[gb192]? = some (.cells #[.string (⟨#[]⟩ : ByteArray), .int .i64 0, .string (⟨#[]⟩ : ByteArray)] 46 (0, 0))) := ⟨by rw [← hq_]; exact (Bq BK192.out)⟩; have n1_ : Aside0 (wr.heap[gb194]? = some (.cells #[.string (a0.extract (a1 : Int).toNat (t193 : Int).toNat), .int .i64 x195001_2, .string (⟨#[]⟩ : ByteArray)] 46 (0, 0))) := ⟨by rw [← hq_]; exact (Bq BK194.out)⟩; have n2_ : Aside0 (Below w.heap.size w wr) := ⟨by rw [← hq_]; exact (W2 HB.out GE192.out GE194.out)⟩; clear BK192 BK194 HB hq_; have BK192 := n0_; have BK194 := n1_; have HB := n2_; clear n0_ n1_ n2_)); (try (have hcu192_0 : wr.cell? ⟨gb192, 0, none⟩ = some (.string (⟨#[]⟩ : ByteArray)) := (blk_cell BK192.out 0).trans rfl; have hfu192_0 := blk_frozen BK192.out 0; have hcu192_1 : wr.cell? ⟨gb192, 1, none⟩ = some (.int .i64 0) := (blk_cell BK192.out 1).trans rfl; have hfu192_1 := blk_frozen BK192.out 1; have hcu192_2 : wr.cell? ⟨gb192, 2, none⟩ = some (.string (⟨#[]⟩ : ByteArray)) := (blk_cell BK192.out 2).trans rfl; have hfu192_2 := blk_frozen BK192.out 2)); (try (have hcu194_0 : wr.cell? ⟨gb194, 0, none⟩ = some (.string (a0.extract (a1 : Int).toNat (t193 : Int).toNat)) := (blk_cell BK194.out 0).trans rfl; have hfu194_0 := blk_frozen BK194.out 0; have hcu194_1 : wr.cell? ⟨gb194, 1, none⟩ = some (.int .i64 x195001_2) := (blk_cell BK194.out 1).trans rfl; have hfu194_1 := blk_frozen BK194.out 1; have hcu194_2 : wr.cell? ⟨gb194, 2, none⟩ = some (.string (⟨#[]⟩ : ByteArray)) := (blk_cell BK194.out 2).trans rfl; have hfu194_2 := blk_frozen BK194.out 2))) | ((with_reducible refine gate_callee (f := 53) rfl ?_); refine goesL_ (some 87) rfl rfl Tryd.func53 (by kernel_rfl) rfl #[.string (a0.extract (t200 : Int).toNat (t201 : Int).toNat)] rfl (by (try simp only [List.map_toArray, List.map_cons, List.map_nil]); first | done | rfl | (simp only [List.length_drop, List.length_take]; rfl) | (simp; done)) ?_; (with_reducible refine (depotref20_Legal.calls k2 (a0.extract (t200 : Int).toNat (t201 : Int).toNat) true _ A51.out).mono ?_); rintro e w66 ⟨rfl, hb⟩; refine ⟨_, rfl, ?_⟩; have n0_ := Aside0.mk (blk_below (g := gb192) (o := .cells #[.string (⟨#[]⟩ : ByteArray), .int .i64 0, .string (⟨#[]⟩ : ByteArray)] 46 (0, 0)) (by (with_reducible repeat (first | refine blk_drewN ?_ _ | refine blk_drew ?_ | refine blk_alloc ?_ _)); refine blk_far ?_ NB192_194.out _; (with_reducible repeat (first | refine blk_drewN ?_ _ | refine blk_drew ?_ | refine blk_alloc ?_ _)); exact BK192.out) hb); have n1_ := Aside0.mk (blk_below (g := gb194) (o := .cells #[.string (a0.extract (a1 : Int).toNat (t193 : Int).toNat), .int .i64 x195001_2, .string (a0.extract (t200 : Int).toNat (t201 : Int).toNat)] 46 (0, 0)) (by (with_reducible repeat (first | refine blk_drewN ?_ _ | refine blk_drew ?_ | refine blk_alloc ?_ _)); refine blk_put (cs := #[.string (a0.extract (a1 : Int).toNat (t193 : Int).toNat), .int .i64 x195001_2, .string (⟨#[]⟩ : ByteArray)]) ?_ 2 _ rfl; (with_reducible repeat (first | refine blk_drewN ?_ _ | refine blk_drew ?_ | refine blk_alloc ?_ _)); exact BK194.out) hb); have n2_ := Aside0.mk (below_step (W2 HB.out GE192.out GE194.out) hb); clear BK192; clear BK194; clear HB; have BK192 := n0_; have BK194 := n1_; have HB := n2_; clear n0_ n1_ n2_; (try clear hb); (try clear hb2); (try clear hk); (try clear hi)) | ((with_reducible refine gate_callee (f := 110) rfl ?_); refine goesL_ (some 93) rfl rfl Tryd.func110 (by kernel_rfl) rfl #[.string a0, .int .i64 t201] rfl (by (try simp only [List.map_toArray, List.map_cons, List.map_nil]); first | done | rfl | (simp only [List.length_drop, List.length_take]; rfl) | (simp; done)) ?_; (with_reducible refine (depotref22_behind.calls k2 a0 t201 t203 _ A53.out).mono ?_); rintro e w' ⟨rfl, ⟨nd, rfl⟩⟩; refine ⟨_, rfl, ?_⟩; (try (rw [drewN_self w66]; generalize hq_ : World.drewN w66 _ = w66; have n0_ : Aside0 (w66.heap[gb192]? = some (.cells #[.string (⟨#[]⟩ : ByteArray), .int .i64 0, .string (⟨#[]⟩ : ByteArray)] 46 (0, 0))) := ⟨by rw [← hq_]; exact (Bq BK192.out)⟩; have n1_ : Aside0 (w66.heap[gb194]? = some (.cells #[.string (a0.extract (a1 : Int).toNat (t193 : Int).toNat), .int .i64 x195001_2, .string (a0.extract (t200 : Int).toNat (t201 : Int).toNat)] 46 (0, 0))) := ⟨by rw [← hq_]; exact (Bq BK194.out)⟩; have n2_ : Aside0 (Below w.heap.size w w66) := ⟨by rw [← hq_]; exact (W2 HB.out GE192.out GE194.out)⟩; clear BK192 BK194 HB hq_; have BK192 := n0_; have BK194 := n1_; have HB := n2_; clear n0_ n1_ n2_)); (try (have hcu192_0 : w66.cell? ⟨gb192, 0, none⟩ = some (.string (⟨#[]⟩ : ByteArray)) := (blk_cell BK192.out 0).trans rfl; have hfu192_0 := blk_frozen BK192.out 0; have hcu192_1 : w66.cell? ⟨gb192, 1, none⟩ = some (.int .i64 0) := (blk_cell BK192.out 1).trans rfl; have hfu192_1 := blk_frozen BK192.out 1; have hcu192_2 : w66.cell? ⟨gb192, 2, none⟩ = some (.string (⟨#[]⟩ : ByteArray)) := (blk_cell BK192.out 2).trans rfl; have hfu192_2 := blk_frozen BK192.out 2)); (try (have hcu194_0 : w66.cell? ⟨gb194, 0, none⟩ = some (.string (a0.extract (a1 : Int).toNat (t193 : Int).toNat)) := (blk_cell BK194.out 0).trans rfl; have hfu194_0 := blk_frozen BK194.out 0; have hcu194_1 : w66.cell? ⟨gb194, 1, none⟩ = some (.int .i64 x195001_2) := (blk_cell BK194.out 1).trans rfl; have hfu194_1 := blk_frozen BK194.out 1; have hcu194_2 : w66.cell? ⟨gb194, 2, none⟩ = some (.string (a0.extract (t200 : Int).toNat (t201 : Int).toNat)) := (blk_cell BK194.out 2).trans rfl; have hfu194_2 := blk_frozen BK194.out 2)); have p61 : 0 ≤ (t203 : Int) := of_decide_eq_true (by first | (with_reducible assumption) | assumption); have q61 : t203 < (a0.size : Int) := of_decide_eq_true (by first | (with_reducible assumption) | assumption); have hx61 := bt_at a0 t203; replace p61 := eq_true p61; replace q61 := eq_true q61))
                      have n0_ := Aside0.mk (blk_drew BK192.out)
                      have n1_ := Aside0.mk (blk_drew BK194.out)
                      have n2_ := Aside0.mk (below_drew1 HB.out)
                      clear BK192
                      clear BK194
                      clear HB
                      have BK192 := n0_
                      have BK194 := n1_
                      have HB := n2_
                      clear n0_ n1_ n2_
                      refine start_ (n := 8) (S := fun w' => w'.cell? ⟨gb194, 0, none⟩ = some (.string (a0.extract (a1 : Int).toNat (t193 : Int).toNat)) ∧ w'.cell? ⟨gb194, 1, none⟩ = some (.int .i64 x195001_2) ∧ w'.cell? ⟨gb194, 2, none⟩ = some (.string (a0.extract (t200 : Int).toNat (t201 : Int).toNat))) (ds := []) #[false, false, false, false, false, false, false, false] (by kernel_rfl) rfl rfl ⟨(blk_cell BK194.out 0).trans rfl, (blk_cell BK194.out 1).trans rfl, (blk_cell BK194.out 2).trans rfl⟩ (fun hHeld => ?_); refine with_tabW depotref22_one.tab29 depotref22_one.bits29 (fun HT_ HW_ => ?_)
                      generalize w66.drew = w67 at BK192 BK194 HB hHeld ⊢
                      refine pure_ (i := 1) (N := some 107) (v := ?_) (a' := ?_) #[false, true, false, false, false, false, false, false] rfl rfl (any_of HT_.out (by kernel_rfl)) (fun _ _ _ h => h) (Or.inl ⟨by rfl, ?_⟩) ?_ ?_
                      rotate_left
                      ·intro w'
                       go_simp
                       with_reducible rfl
                      rotate_left
                      ·simp only [Act.put, List.setIfInBounds_toArray, List.set_cons_zero, List.set_cons_succ, i64_w, i32_w]
                       rfl
                      refine pure_ (i := 2) (N := some 108) (v := ?_) (a' := ?_) #[false, true, true, false, false, false, false, false] rfl rfl (any_of HT_.out (by kernel_rfl)) (fun _ _ _ h => h) (Or.inl ⟨by rfl, ?_⟩) ?_ ?_
                      rotate_left
                      ·intro w'
                       go_simp
                       with_reducible rfl
                      rotate_left
                      ·simp only [Act.put, List.setIfInBounds_toArray, List.set_cons_zero, List.set_cons_succ, i64_w, i32_w]
                       rfl
                      refine pure_ (i := 3) (N := some 109) (v := ?_) (a' := ?_) #[false, true, true, true, false, false, false, false] rfl rfl (any_of HT_.out (by kernel_rfl)) (fun _ _ _ h => h) (Or.inl ⟨by rfl, ?_⟩) ?_ ?_
                      rotate_left
                      ·intro w'
                       go_simp
                       with_reducible rfl
                      rotate_left
                      ·simp only [Act.put, List.setIfInBounds_toArray, List.set_cons_zero, List.set_cons_succ, i64_w, i32_w]
                       rfl
                      refine take_ (i := 0) (N := some 106) (v := ?_) (a' := ?_) #[true, true, true, true, false, false, false, false] rfl rfl (take_ofW HT_.out HW_.out (by kernel_rfl)) (fun _ _ _ h => h) (Or.inl ⟨by rfl, ?_⟩) hHeld ?_ ?_
                      rotate_left
                      ·rintro w' ⟨s0, s1, s2⟩
                       go_simp
                       with_reducible rfl
                      rotate_left
                      ·simp only [Act.put, List.setIfInBounds_toArray, List.set_cons_zero, List.set_cons_succ, i64_w, i32_w]
                       rfl
                      refine one_ (i := 4) (N := some 110) #[true, true, true, true, true, false, false, false] rfl rfl (one_of HT_.out (by kernel_rfl)) (by decide) (fun K hK => ?_)
                      refine goes_ Tryd.func110 (by kernel_rfl) rfl #[.string a0, .int .i64 (wrap64 (t203 + 1))] (by rfl) rfl rfl (by (try simp only [List.map_toArray, List.map_cons, List.map_nil]); first | done | rfl | (simp only [List.length_drop, List.length_take]; rfl) | (simp; done)) ?_
                      with_reducible refine (depotref22_behind.calls k2 a0 (wrap64 (t203 + 1)) t204 _ A63.out).mono ?_
                      rintro e w' ⟨rfl, ⟨nd, rfl⟩⟩
                      refine ⟨_, rfl, ?_⟩
                      refine hK.out _ _ ⟨(blk_cell BK194.out 0).trans rfl, (blk_cell BK194.out 1).trans rfl, (blk_cell BK194.out 2).trans rfl⟩ (fun hHeld => ?_)
                      clear hK K
                      refine norm_ (a' := ?_) ?_ ?_
                      rotate_left
                      ·show Act.put _ (some 110) _ = _
                       simp only [Act.put, List.setIfInBounds_toArray, List.set_cons_zero, List.set_cons_succ, i64_w, i32_w]
                       rfl
                      refine one_ (i := 5) (N := none) #[true, true, true, true, true, true, false, false] rfl rfl (one_of HT_.out (by kernel_rfl)) (by decide) (fun K hK => ?_)
                      have hs68 : w67.cell? ⟨gb192, 0, none⟩ = some (.string (⟨#[]⟩ : ByteArray)) := (blk_cell BK192.out 0).trans rfl
                      have hfs68 := blk_frozen BK192.out 0
                      have hns68_1 := NB194_192.out
                      have hms68_1 := NB192_194.out
                      have hs69 : w67.cell? ⟨gb192, 1, none⟩ = some (.int .i64 0) := (blk_cell BK192.out 1).trans rfl
                      have hfs69 := blk_frozen BK192.out 1
                      have hns69_1 := NB194_192.out
                      have hms69_1 := NB192_194.out
                      have hs70 : w67.cell? ⟨gb192, 2, none⟩ = some (.string (⟨#[]⟩ : ByteArray)) := (blk_cell BK192.out 2).trans rfl
                      have hfs70 := blk_frozen BK192.out 2
                      have hns70_1 := NB194_192.out
                      have hms70_1 := NB192_194.out
                      refine skip_ (w1 := ?_) (by rfl) rfl ?_ ?_
                      rotate_left
                      ·go_simp
                       rfl
                      refine hK.out _ _ ⟨((cell_far (p := ⟨gb192, _, none⟩) NB194_192.out _).trans (((cell_far (p := ⟨gb192, _, none⟩) NB194_192.out _).trans (((cell_far (p := ⟨gb192, _, none⟩) NB194_192.out _).trans (hHeld.1)))))), ((cell_far (p := ⟨gb192, _, none⟩) NB194_192.out _).trans (((cell_far (p := ⟨gb192, _, none⟩) NB194_192.out _).trans (((cell_far (p := ⟨gb192, _, none⟩) NB194_192.out _).trans (hHeld.2.1)))))), ((cell_far (p := ⟨gb192, _, none⟩) NB194_192.out _).trans (((cell_far (p := ⟨gb192, _, none⟩) NB194_192.out _).trans (((cell_far (p := ⟨gb192, _, none⟩) NB194_192.out _).trans (hHeld.2.2))))))⟩ (fun hHeld => ?_)
                      clear hK K
                      refine pure_ (i := 6) (N := some 5) (v := ?_) (a' := ?_) #[true, true, true, true, true, true, true, false] rfl rfl (any_of HT_.out (by kernel_rfl)) (fun _ _ _ h => h) (Or.inl ⟨by rfl, ?_⟩) ?_ ?_
                      rotate_left
                      ·intro w'
                       go_simp
                       with_reducible rfl
                      rotate_left
                      ·simp only [Act.put, List.setIfInBounds_toArray, List.set_cons_zero, List.set_cons_succ, i64_w, i32_w]
                       rfl
                      refine pure_ (i := 7) (N := some 6) (v := ?_) (a' := ?_) #[true, true, true, true, true, true, true, true] rfl rfl (any_of HT_.out (by kernel_rfl)) (fun _ _ _ h => h) (Or.inl ⟨by rfl, ?_⟩) ?_ ?_
                      rotate_left
                      ·intro w'
                       go_simp
                       with_reducible rfl
                      rotate_left
                      ·simp only [Act.put, List.setIfInBounds_toArray, List.set_cons_zero, List.set_cons_succ, i64_w, i32_w]
                       rfl
                      refine done_ (done_of HT_.out (by kernel_rfl)) ?_
                      try go_wp2
                      refine bodyPost_ret (results_ctt rfl _ _ gb192 46 #[.string (a0.extract (a1 : Int).toNat (t193 : Int).toNat), .int .i64 x195001_2, .string (a0.extract (t200 : Int).toNat (t201 : Int).toNat)] (0, 0) _ rfl (by (with_reducible repeat (first | refine blk_drewN ?_ _ | refine blk_drew ?_ | refine blk_alloc ?_ _)); refine blk_put (cs := #[.string (a0.extract (a1 : Int).toNat (t193 : Int).toNat), .int .i64 x195001_2, .string (⟨#[]⟩ : ByteArray)]) ?_ 2 _ rfl; (with_reducible repeat (first | refine blk_drewN ?_ _ | refine blk_drew ?_ | refine blk_alloc ?_ _)); refine blk_put (cs := #[.string (a0.extract (a1 : Int).toNat (t193 : Int).toNat), .int .i64 0, .string (⟨#[]⟩ : ByteArray)]) ?_ 1 _ rfl; (with_reducible repeat (first | refine blk_drewN ?_ _ | refine blk_drew ?_ | refine blk_alloc ?_ _)); refine blk_put (cs := #[.string (⟨#[]⟩ : ByteArray), .int .i64 0, .string (⟨#[]⟩ : ByteArray)]) ?_ 0 _ rfl; (with_reducible repeat (first | refine blk_drewN ?_ _ | refine blk_drew ?_ | refine blk_alloc ?_ _)); exact BK192.out) Tryd.underlying46 rfl (by kernel_rfl)) rfl ?_
                      exact ⟨by first | rfl | (simp [errW_none, errW_some] <;> rfl) | (simp [*, errW_none, errW_some] <;> rfl) | (simp [errW_none, errW_some, Go.Proofs.YtmocooihkobdjaaDoor.listNe]; done), by repeat (first | (with_reducible first | exact HB.out | apply below_alloc | apply pw_below_drewN | apply below_drew1 | refine below_set ?_ GE192.out | refine below_set ?_ GE194.out) | exact HB.out)⟩
                     ·rw [if_neg c62] at H
                      have c62b0 : ((bt a0 t203) == 41) = false := beq_eq_false_iff_ne.mpr c62
                      have c62b1 : ((bt a0 t203) != 41) = true := bne_iff_ne.mpr c62
                      simp only [Option.some.injEq, Prod.mk.injEq] at H
                      obtain ⟨rfl, rfl, rfl, rfl, rfl⟩ := H
                      have hnb71 := NB194_192.out
                      have hnc71 := NB192_194.out
                      have hcz72_0 : wr.cell? ⟨gb194, 0, none⟩ = some (.string (a0.extract (a1 : Int).toNat (t193 : Int).toNat)) := (blk_cell BK194.out 0).trans rfl
                      have hcz72_1 : wr.cell? ⟨gb194, 1, none⟩ = some (.int .i64 x195001_2) := (blk_cell BK194.out 1).trans rfl
                      have hcz72_2 : wr.cell? ⟨gb194, 2, none⟩ = some (.string (⟨#[]⟩ : ByteArray)) := (blk_cell BK194.out 2).trans rfl
                      have hfz72_0 := blk_frozen BK194.out 0
                      have hfz72_1 := blk_frozen BK194.out 1
                      have hfz72_2 := blk_frozen BK194.out 2
                      go_wp2_with (first | ((with_reducible refine gate_callee (f := 110) rfl ?_); refine goesL_ (some 71) rfl rfl Tryd.func110 (by kernel_rfl) rfl #[.string a0, .int .i64 t198] rfl (by (try simp only [List.map_toArray, List.map_cons, List.map_nil]); first | done | rfl | (simp only [List.length_drop, List.length_take]; rfl) | (simp; done)) ?_; (with_reducible refine (depotref22_behind.calls k2 a0 t198 t200 _ A42.out).mono ?_); rintro e w' ⟨rfl, ⟨nd, rfl⟩⟩; refine ⟨_, rfl, ?_⟩; (try (rw [drewN_self wr]; generalize hq_ : World.drewN wr _ = wr; have n0_ : Aside0 (wr.heap[gb192]? = some (.cells #[.string (⟨#[]⟩ : ByteArray), .int .i64 0, .string (⟨#[]⟩ : ByteArray)] 46 (0, 0))) := ⟨by rw [← hq_]; exact (Bq BK192.out)⟩; have n1_ : Aside0 (wr.heap[gb194]? = some (.cells #[.string (a0.extract (a1 : Int).toNat (t193 : Int).toNat), .int .i64 x195001_2, .string (⟨#[]⟩ : ByteArray)] 46 (0, 0))) := ⟨by rw [← hq_]; exact (Bq BK194.out)⟩; have n2_ : Aside0 (Below w.heap.size w wr) := ⟨by rw [← hq_]; exact (W2 HB.out GE192.out GE194.out)⟩; clear BK192 BK194 HB hq_; have BK192 := n0_; have BK194 := n1_; have HB := n2_; clear n0_ n1_ n2_)); (try (have hcu192_0 : wr.cell? ⟨gb192, 0, none⟩ = some (.string (⟨#[]⟩ : ByteArray)) := (blk_cell BK192.out 0).trans rfl; have hfu192_0 := blk_frozen BK192.out 0; have hcu192_1 : wr.cell? ⟨gb192, 1, none⟩ = some (.int .i64 0) := (blk_cell BK192.out 1).trans rfl; have hfu192_1 := blk_frozen BK192.out 1; have hcu192_2 : wr.cell? ⟨gb192, 2, none⟩ = some (.string (⟨#[]⟩ : ByteArray)) := (blk_cell BK192.out 2).trans rfl; have hfu192_2 := blk_frozen BK192.out 2)); (try (have hcu194_0 : wr.cell? ⟨gb194, 0, none⟩ = some (.string (a0.extract (a1 : Int).toNat (t193 : Int).toNat)) := (blk_cell BK194.out 0).trans rfl; have hfu194_0 := blk_frozen BK194.out 0; have hcu194_1 : wr.cell? ⟨gb194, 1, none⟩ = some (.int .i64 x195001_2) := (blk_cell BK194.out 1).trans rfl; have hfu194_1 := blk_frozen BK194.out 1; have hcu194_2 : wr.cell? ⟨gb194, 2, none⟩ = some (.string (⟨#[]⟩ : ByteArray)) := (blk_cell BK194.out 2).trans rfl; have hfu194_2 := blk_frozen BK194.out 2))) | ((with_reducible refine gate_callee (f := 123) rfl ?_); refine goesL_ (some 74) rfl rfl Tryd.func123 (by kernel_rfl) rfl #[.string a0, .int .i64 t200] rfl (by (try simp only [List.map_toArray, List.map_cons, List.map_nil]); first | done | rfl | (simp only [List.length_drop, List.length_take]; rfl) | (simp; done)) ?_; (with_reducible refine (depotref22_word.calls k2 a0 t200 t201 _ A43.out).mono ?_); rintro e w' ⟨rfl, ⟨nd, rfl⟩⟩; refine ⟨_, rfl, ?_⟩; (try (rw [drewN_self wr]; generalize hq_ : World.drewN wr _ = wr; have n0_ : Aside0 (wr.heap[gb192]? = some (.cells #[.string (⟨#[]⟩ : ByteArray), .int .i64 0, .string (⟨#[]⟩ : ByteArray)] 46 (0, 0))) := ⟨by rw [← hq_]; exact (Bq BK192.out)⟩; have n1_ : Aside0 (wr.heap[gb194]? = some (.cells #[.string (a0.extract (a1 : Int).toNat (t193 : Int).toNat), .int .i64 x195001_2, .string (⟨#[]⟩ : ByteArray)] 46 (0, 0))) := ⟨by rw [← hq_]; exact (Bq BK194.out)⟩; have n2_ : Aside0 (Below w.heap.size w wr) := ⟨by rw [← hq_]; exact (W2 HB.out GE192.out GE194.out)⟩; clear BK192 BK194 HB hq_; have BK192 := n0_; have BK194 := n1_; have HB := n2_; clear n0_ n1_ n2_)); (try (have hcu192_0 : wr.cell? ⟨gb192, 0, none⟩ = some (.string (⟨#[]⟩ : ByteArray)) := (blk_cell BK192.out 0).trans rfl; have hfu192_0 := blk_frozen BK192.out 0; have hcu192_1 : wr.cell? ⟨gb192, 1, none⟩ = some (.int .i64 0) := (blk_cell BK192.out 1).trans rfl; have hfu192_1 := blk_frozen BK192.out 1; have hcu192_2 : wr.cell? ⟨gb192, 2, none⟩ = some (.string (⟨#[]⟩ : ByteArray)) := (blk_cell BK192.out 2).trans rfl; have hfu192_2 := blk_frozen BK192.out 2)); (try (have hcu194_0 : wr.cell? ⟨gb194, 0, none⟩ = some (.string (a0.extract (a1 : Int).toNat (t193 : Int).toNat)) := (blk_cell BK194.out 0).trans rfl; have hfu194_0 := blk_frozen BK194.out 0; have hcu194_1 : wr.cell? ⟨gb194, 1, none⟩ = some (.int .i64 x195001_2) := (blk_cell BK194.out 1).trans rfl; have hfu194_1 := blk_frozen BK194.out 1; have hcu194_2 : wr.cell? ⟨gb194, 2, none⟩ = some (.string (⟨#[]⟩ : ByteArray)) := (blk_cell BK194.out 2).trans rfl; have hfu194_2 := blk_frozen BK194.out 2))) | ((with_reducible refine gate_callee (f := 53) rfl ?_); refine goesL_ (some 87) rfl rfl Tryd.func53 (by kernel_rfl) rfl #[.string (a0.extract (t200 : Int).toNat (t201 : Int).toNat)] rfl (by (try simp only [List.map_toArray, List.map_cons, List.map_nil]); first | done | rfl | (simp only [List.length_drop, List.length_take]; rfl) | (simp; done)) ?_; (with_reducible refine (depotref20_Legal.calls k2 (a0.extract (t200 : Int).toNat (t201 : Int).toNat) true _ A51.out).mono ?_); rintro e w73 ⟨rfl, hb⟩; refine ⟨_, rfl, ?_⟩; have n0_ := Aside0.mk (blk_below (g := gb192) (o := .cells #[.string (⟨#[]⟩ : ByteArray), .int .i64 0, .string (⟨#[]⟩ : ByteArray)] 46 (0, 0)) (by (with_reducible repeat (first | refine blk_drewN ?_ _ | refine blk_drew ?_ | refine blk_alloc ?_ _)); refine blk_far ?_ NB192_194.out _; (with_reducible repeat (first | refine blk_drewN ?_ _ | refine blk_drew ?_ | refine blk_alloc ?_ _)); exact BK192.out) hb); have n1_ := Aside0.mk (blk_below (g := gb194) (o := .cells #[.string (a0.extract (a1 : Int).toNat (t193 : Int).toNat), .int .i64 x195001_2, .string (a0.extract (t200 : Int).toNat (t201 : Int).toNat)] 46 (0, 0)) (by (with_reducible repeat (first | refine blk_drewN ?_ _ | refine blk_drew ?_ | refine blk_alloc ?_ _)); refine blk_put (cs := #[.string (a0.extract (a1 : Int).toNat (t193 : Int).toNat), .int .i64 x195001_2, .string (⟨#[]⟩ : ByteArray)]) ?_ 2 _ rfl; (with_reducible repeat (first | refine blk_drewN ?_ _ | refine blk_drew ?_ | refine blk_alloc ?_ _)); exact BK194.out) hb); have n2_ := Aside0.mk (below_step (W2 HB.out GE192.out GE194.out) hb); clear BK192; clear BK194; clear HB; have BK192 := n0_; have BK194 := n1_; have HB := n2_; clear n0_ n1_ n2_; (try clear hb); (try clear hb2); (try clear hk); (try clear hi)) | ((with_reducible refine gate_callee (f := 110) rfl ?_); refine goesL_ (some 93) rfl rfl Tryd.func110 (by kernel_rfl) rfl #[.string a0, .int .i64 t201] rfl (by (try simp only [List.map_toArray, List.map_cons, List.map_nil]); first | done | rfl | (simp only [List.length_drop, List.length_take]; rfl) | (simp; done)) ?_; (with_reducible refine (depotref22_behind.calls k2 a0 t201 t203 _ A53.out).mono ?_); rintro e w' ⟨rfl, ⟨nd, rfl⟩⟩; refine ⟨_, rfl, ?_⟩; (try (rw [drewN_self w73]; generalize hq_ : World.drewN w73 _ = w73; have n0_ : Aside0 (w73.heap[gb192]? = some (.cells #[.string (⟨#[]⟩ : ByteArray), .int .i64 0, .string (⟨#[]⟩ : ByteArray)] 46 (0, 0))) := ⟨by rw [← hq_]; exact (Bq BK192.out)⟩; have n1_ : Aside0 (w73.heap[gb194]? = some (.cells #[.string (a0.extract (a1 : Int).toNat (t193 : Int).toNat), .int .i64 x195001_2, .string (a0.extract (t200 : Int).toNat (t201 : Int).toNat)] 46 (0, 0))) := ⟨by rw [← hq_]; exact (Bq BK194.out)⟩; have n2_ : Aside0 (Below w.heap.size w w73) := ⟨by rw [← hq_]; exact (W2 HB.out GE192.out GE194.out)⟩; clear BK192 BK194 HB hq_; have BK192 := n0_; have BK194 := n1_; have HB := n2_; clear n0_ n1_ n2_)); (try (have hcu192_0 : w73.cell? ⟨gb192, 0, none⟩ = some (.string (⟨#[]⟩ : ByteArray)) := (blk_cell BK192.out 0).trans rfl; have hfu192_0 := blk_frozen BK192.out 0; have hcu192_1 : w73.cell? ⟨gb192, 1, none⟩ = some (.int .i64 0) := (blk_cell BK192.out 1).trans rfl; have hfu192_1 := blk_frozen BK192.out 1; have hcu192_2 : w73.cell? ⟨gb192, 2, none⟩ = some (.string (⟨#[]⟩ : ByteArray)) := (blk_cell BK192.out 2).trans rfl; have hfu192_2 := blk_frozen BK192.out 2)); (try (have hcu194_0 : w73.cell? ⟨gb194, 0, none⟩ = some (.string (a0.extract (a1 : Int).toNat (t193 : Int).toNat)) := (blk_cell BK194.out 0).trans rfl; have hfu194_0 := blk_frozen BK194.out 0; have hcu194_1 : w73.cell? ⟨gb194, 1, none⟩ = some (.int .i64 x195001_2) := (blk_cell BK194.out 1).trans rfl; have hfu194_1 := blk_frozen BK194.out 1; have hcu194_2 : w73.cell? ⟨gb194, 2, none⟩ = some (.string (a0.extract (t200 : Int).toNat (t201 : Int).toNat)) := (blk_cell BK194.out 2).trans rfl; have hfu194_2 := blk_frozen BK194.out 2)); have p61 : 0 ≤ (t203 : Int) := of_decide_eq_true (by first | (with_reducible assumption) | assumption); have q61 : t203 < (a0.size : Int) := of_decide_eq_true (by first | (with_reducible assumption) | assumption); have hx61 := bt_at a0 t203; replace p61 := eq_true p61; replace q61 := eq_true q61; have hcz74_0 : w73.cell? ⟨gb192, 0, none⟩ = some (.string (⟨#[]⟩ : ByteArray)) := (blk_cell BK192.out 0).trans rfl; have hcz74_1 : w73.cell? ⟨gb192, 1, none⟩ = some (.int .i64 0) := (blk_cell BK192.out 1).trans rfl; have hcz74_2 : w73.cell? ⟨gb192, 2, none⟩ = some (.string (⟨#[]⟩ : ByteArray)) := (blk_cell BK192.out 2).trans rfl; have hfz74_0 := blk_frozen BK192.out 0; have hfz74_1 := blk_frozen BK192.out 1; have hfz74_2 := blk_frozen BK192.out 2))
                      refine bodyPost_ret (results_ctt rfl _ _ gb192 46 #[.string (⟨#[]⟩ : ByteArray), .int .i64 0, .string (⟨#[]⟩ : ByteArray)] (0, 0) _ rfl (by (with_reducible repeat (first | refine blk_drewN ?_ _ | refine blk_drew ?_ | refine blk_alloc ?_ _)); refine blk_put (cs := #[.string (⟨#[]⟩ : ByteArray), .int .i64 0, .string (⟨#[]⟩ : ByteArray)]) ?_ 2 _ rfl; (with_reducible repeat (first | refine blk_drewN ?_ _ | refine blk_drew ?_ | refine blk_alloc ?_ _)); refine blk_put (cs := #[.string (⟨#[]⟩ : ByteArray), .int .i64 0, .string (⟨#[]⟩ : ByteArray)]) ?_ 1 _ rfl; (with_reducible repeat (first | refine blk_drewN ?_ _ | refine blk_drew ?_ | refine blk_alloc ?_ _)); refine blk_put (cs := #[.string (⟨#[]⟩ : ByteArray), .int .i64 0, .string (⟨#[]⟩ : ByteArray)]) ?_ 0 _ rfl; (with_reducible repeat (first | refine blk_drewN ?_ _ | refine blk_drew ?_ | refine blk_alloc ?_ _)); exact BK192.out) Tryd.underlying46 rfl (by kernel_rfl)) rfl ?_
                      exact ⟨by first | rfl | (simp [errW_none, errW_some] <;> rfl) | (simp [*, errW_none, errW_some] <;> rfl) | (simp [errW_none, errW_some, Go.Proofs.YtmocooihkobdjaaDoor.listNe]; done), by repeat (first | (with_reducible first | exact HB.out | apply below_alloc | apply pw_below_drewN | apply below_drew1 | refine below_set ?_ GE192.out | refine below_set ?_ GE194.out) | exact HB.out)⟩
                    ·rw [if_neg c60] at H
                     exact absurd H (by simp)
                   ·rw [if_neg c59] at H
                    exact absurd H (by simp)
                 ·replace c52 := Bool.eq_false_iff.mpr c52
                  subst c52
                  have H1 : (some ((⟨#[]⟩ : ByteArray), 0, (⟨#[]⟩ : ByteArray), 200, t200)) = some (r1, r2, r3, r4, r5) := by rw [if_neg (show ¬ (false = true) by decide)] at H; exact H
                  clear H
                  have H := H1
                  clear H1
                  simp only [Option.some.injEq, Prod.mk.injEq] at H
                  obtain ⟨rfl, rfl, rfl, rfl, rfl⟩ := H
                  have hnb75 := NB194_192.out
                  have hnc75 := NB192_194.out
                  have hcz76_0 : wr.cell? ⟨gb194, 0, none⟩ = some (.string (a0.extract (a1 : Int).toNat (t193 : Int).toNat)) := (blk_cell BK194.out 0).trans rfl
                  have hcz76_1 : wr.cell? ⟨gb194, 1, none⟩ = some (.int .i64 x195001_2) := (blk_cell BK194.out 1).trans rfl
                  have hcz76_2 : wr.cell? ⟨gb194, 2, none⟩ = some (.string (⟨#[]⟩ : ByteArray)) := (blk_cell BK194.out 2).trans rfl
                  have hfz76_0 := blk_frozen BK194.out 0
                  have hfz76_1 := blk_frozen BK194.out 1
                  have hfz76_2 := blk_frozen BK194.out 2
                  go_wp2_with (first | ((with_reducible refine gate_callee (f := 110) rfl ?_); refine goesL_ (some 71) rfl rfl Tryd.func110 (by kernel_rfl) rfl #[.string a0, .int .i64 t198] rfl (by (try simp only [List.map_toArray, List.map_cons, List.map_nil]); first | done | rfl | (simp only [List.length_drop, List.length_take]; rfl) | (simp; done)) ?_; (with_reducible refine (depotref22_behind.calls k2 a0 t198 t200 _ A42.out).mono ?_); rintro e w' ⟨rfl, ⟨nd, rfl⟩⟩; refine ⟨_, rfl, ?_⟩; (try (rw [drewN_self wr]; generalize hq_ : World.drewN wr _ = wr; have n0_ : Aside0 (wr.heap[gb192]? = some (.cells #[.string (⟨#[]⟩ : ByteArray), .int .i64 0, .string (⟨#[]⟩ : ByteArray)] 46 (0, 0))) := ⟨by rw [← hq_]; exact (Bq BK192.out)⟩; have n1_ : Aside0 (wr.heap[gb194]? = some (.cells #[.string (a0.extract (a1 : Int).toNat (t193 : Int).toNat), .int .i64 x195001_2, .string (⟨#[]⟩ : ByteArray)] 46 (0, 0))) := ⟨by rw [← hq_]; exact (Bq BK194.out)⟩; have n2_ : Aside0 (Below w.heap.size w wr) := ⟨by rw [← hq_]; exact (W2 HB.out GE192.out GE194.out)⟩; clear BK192 BK194 HB hq_; have BK192 := n0_; have BK194 := n1_; have HB := n2_; clear n0_ n1_ n2_)); (try (have hcu192_0 : wr.cell? ⟨gb192, 0, none⟩ = some (.string (⟨#[]⟩ : ByteArray)) := (blk_cell BK192.out 0).trans rfl; have hfu192_0 := blk_frozen BK192.out 0; have hcu192_1 : wr.cell? ⟨gb192, 1, none⟩ = some (.int .i64 0) := (blk_cell BK192.out 1).trans rfl; have hfu192_1 := blk_frozen BK192.out 1; have hcu192_2 : wr.cell? ⟨gb192, 2, none⟩ = some (.string (⟨#[]⟩ : ByteArray)) := (blk_cell BK192.out 2).trans rfl; have hfu192_2 := blk_frozen BK192.out 2)); (try (have hcu194_0 : wr.cell? ⟨gb194, 0, none⟩ = some (.string (a0.extract (a1 : Int).toNat (t193 : Int).toNat)) := (blk_cell BK194.out 0).trans rfl; have hfu194_0 := blk_frozen BK194.out 0; have hcu194_1 : wr.cell? ⟨gb194, 1, none⟩ = some (.int .i64 x195001_2) := (blk_cell BK194.out 1).trans rfl; have hfu194_1 := blk_frozen BK194.out 1; have hcu194_2 : wr.cell? ⟨gb194, 2, none⟩ = some (.string (⟨#[]⟩ : ByteArray)) := (blk_cell BK194.out 2).trans rfl; have hfu194_2 := blk_frozen BK194.out 2))) | ((with_reducible refine gate_callee (f := 123) rfl ?_); refine goesL_ (some 74) rfl rfl Tryd.func123 (by kernel_rfl) rfl #[.string a0, .int .i64 t200] rfl (by (try simp only [List.map_toArray, List.map_cons, List.map_nil]); first | done | rfl | (simp only [List.length_drop, List.length_take]; rfl) | (simp; done)) ?_; (with_reducible refine (depotref22_word.calls k2 a0 t200 t201 _ A43.out).mono ?_); rintro e w' ⟨rfl, ⟨nd, rfl⟩⟩; refine ⟨_, rfl, ?_⟩; (try (rw [drewN_self wr]; generalize hq_ : World.drewN wr _ = wr; have n0_ : Aside0 (wr.heap[gb192]? = some (.cells #[.string (⟨#[]⟩ : ByteArray), .int .i64 0, .string (⟨#[]⟩ : ByteArray)] 46 (0, 0))) := ⟨by rw [← hq_]; exact (Bq BK192.out)⟩; have n1_ : Aside0 (wr.heap[gb194]? = some (.cells #[.string (a0.extract (a1 : Int).toNat (t193 : Int).toNat), .int .i64 x195001_2, .string (⟨#[]⟩ : ByteArray)] 46 (0, 0))) := ⟨by rw [← hq_]; exact (Bq BK194.out)⟩; have n2_ : Aside0 (Below w.heap.size w wr) := ⟨by rw [← hq_]; exact (W2 HB.out GE192.out GE194.out)⟩; clear BK192 BK194 HB hq_; have BK192 := n0_; have BK194 := n1_; have HB := n2_; clear n0_ n1_ n2_)); (try (have hcu192_0 : wr.cell? ⟨gb192, 0, none⟩ = some (.string (⟨#[]⟩ : ByteArray)) := (blk_cell BK192.out 0).trans rfl; have hfu192_0 := blk_frozen BK192.out 0; have hcu192_1 : wr.cell? ⟨gb192, 1, none⟩ = some (.int .i64 0) := (blk_cell BK192.out 1).trans rfl; have hfu192_1 := blk_frozen BK192.out 1; have hcu192_2 : wr.cell? ⟨gb192, 2, none⟩ = some (.string (⟨#[]⟩ : ByteArray)) := (blk_cell BK192.out 2).trans rfl; have hfu192_2 := blk_frozen BK192.out 2)); (try (have hcu194_0 : wr.cell? ⟨gb194, 0, none⟩ = some (.string (a0.extract (a1 : Int).toNat (t193 : Int).toNat)) := (blk_cell BK194.out 0).trans rfl; have hfu194_0 := blk_frozen BK194.out 0; have hcu194_1 : wr.cell? ⟨gb194, 1, none⟩ = some (.int .i64 x195001_2) := (blk_cell BK194.out 1).trans rfl; have hfu194_1 := blk_frozen BK194.out 1; have hcu194_2 : wr.cell? ⟨gb194, 2, none⟩ = some (.string (⟨#[]⟩ : ByteArray)) := (blk_cell BK194.out 2).trans rfl; have hfu194_2 := blk_frozen BK194.out 2))) | ((with_reducible refine gate_callee (f := 53) rfl ?_); refine goesL_ (some 87) rfl rfl Tryd.func53 (by kernel_rfl) rfl #[.string (a0.extract (t200 : Int).toNat (t201 : Int).toNat)] rfl (by (try simp only [List.map_toArray, List.map_cons, List.map_nil]); first | done | rfl | (simp only [List.length_drop, List.length_take]; rfl) | (simp; done)) ?_; (with_reducible refine (depotref20_Legal.calls k2 (a0.extract (t200 : Int).toNat (t201 : Int).toNat) false _ A51.out).mono ?_); rintro e w77 ⟨rfl, hb⟩; refine ⟨_, rfl, ?_⟩; have n0_ := Aside0.mk (blk_below (g := gb192) (o := .cells #[.string (⟨#[]⟩ : ByteArray), .int .i64 0, .string (⟨#[]⟩ : ByteArray)] 46 (0, 0)) (by (with_reducible repeat (first | refine blk_drewN ?_ _ | refine blk_drew ?_ | refine blk_alloc ?_ _)); refine blk_far ?_ NB192_194.out _; (with_reducible repeat (first | refine blk_drewN ?_ _ | refine blk_drew ?_ | refine blk_alloc ?_ _)); exact BK192.out) hb); have n1_ := Aside0.mk (blk_below (g := gb194) (o := .cells #[.string (a0.extract (a1 : Int).toNat (t193 : Int).toNat), .int .i64 x195001_2, .string (a0.extract (t200 : Int).toNat (t201 : Int).toNat)] 46 (0, 0)) (by (with_reducible repeat (first | refine blk_drewN ?_ _ | refine blk_drew ?_ | refine blk_alloc ?_ _)); refine blk_put (cs := #[.string (a0.extract (a1 : Int).toNat (t193 : Int).toNat), .int .i64 x195001_2, .string (⟨#[]⟩ : ByteArray)]) ?_ 2 _ rfl; (with_reducible repeat (first | refine blk_drewN ?_ _ | refine blk_drew ?_ | refine blk_alloc ?_ _)); exact BK194.out) hb); have n2_ := Aside0.mk (below_step (W2 HB.out GE192.out GE194.out) hb); clear BK192; clear BK194; clear HB; have BK192 := n0_; have BK194 := n1_; have HB := n2_; clear n0_ n1_ n2_; (try clear hb); (try clear hb2); (try clear hk); (try clear hi); have hcz78_0 : w77.cell? ⟨gb192, 0, none⟩ = some (.string (⟨#[]⟩ : ByteArray)) := (blk_cell BK192.out 0).trans rfl; have hcz78_1 : w77.cell? ⟨gb192, 1, none⟩ = some (.int .i64 0) := (blk_cell BK192.out 1).trans rfl; have hcz78_2 : w77.cell? ⟨gb192, 2, none⟩ = some (.string (⟨#[]⟩ : ByteArray)) := (blk_cell BK192.out 2).trans rfl; have hfz78_0 := blk_frozen BK192.out 0; have hfz78_1 := blk_frozen BK192.out 1; have hfz78_2 := blk_frozen BK192.out 2))
                  refine bodyPost_ret (results_ctt rfl _ _ gb192 46 #[.string (⟨#[]⟩ : ByteArray), .int .i64 0, .string (⟨#[]⟩ : ByteArray)] (0, 0) _ rfl (by (with_reducible repeat (first | refine blk_drewN ?_ _ | refine blk_drew ?_ | refine blk_alloc ?_ _)); refine blk_put (cs := #[.string (⟨#[]⟩ : ByteArray), .int .i64 0, .string (⟨#[]⟩ : ByteArray)]) ?_ 2 _ rfl; (with_reducible repeat (first | refine blk_drewN ?_ _ | refine blk_drew ?_ | refine blk_alloc ?_ _)); refine blk_put (cs := #[.string (⟨#[]⟩ : ByteArray), .int .i64 0, .string (⟨#[]⟩ : ByteArray)]) ?_ 1 _ rfl; (with_reducible repeat (first | refine blk_drewN ?_ _ | refine blk_drew ?_ | refine blk_alloc ?_ _)); refine blk_put (cs := #[.string (⟨#[]⟩ : ByteArray), .int .i64 0, .string (⟨#[]⟩ : ByteArray)]) ?_ 0 _ rfl; (with_reducible repeat (first | refine blk_drewN ?_ _ | refine blk_drew ?_ | refine blk_alloc ?_ _)); exact BK192.out) Tryd.underlying46 rfl (by kernel_rfl)) rfl ?_
                  exact ⟨by first | rfl | (simp [errW_none, errW_some] <;> rfl) | (simp [*, errW_none, errW_some] <;> rfl) | (simp [errW_none, errW_some, Go.Proofs.YtmocooihkobdjaaDoor.listNe]; done), by repeat (first | (with_reducible first | exact HB.out | apply below_alloc | apply pw_below_drewN | apply below_drew1 | refine below_set ?_ GE192.out | refine below_set ?_ GE194.out) | exact HB.out)⟩
                ·rw [if_neg c50] at H
                 exact absurd H (by simp)
               ·rw [if_neg c49] at H
                exact absurd H (by simp)
              ·rw [if_neg c48] at H
               exact absurd H (by simp)
     ·replace c11 := Bool.eq_false_iff.mpr c11
      subst c11
      have H1 : (some ((⟨#[]⟩ : ByteArray), 0, (⟨#[]⟩ : ByteArray), 230, a1)) = some (r1, r2, r3, r4, r5) := by rw [if_neg (show ¬ (false = true) by decide)] at H; exact H
      clear H
      have H := H1
      clear H1
      simp only [Option.some.injEq, Prod.mk.injEq] at H
      obtain ⟨rfl, rfl, rfl, rfl, rfl⟩ := H
      go_enter Tryd.func111, Tryd.ntmps111
      go_wp2_with (first | ((with_reducible refine gate_dst (N := 4) rfl ?_); refine box_event ?hg (N := 4) ?hd (cs := #[.string (⟨#[]⟩ : ByteArray), .int .i64 0, .string (⟨#[]⟩ : ByteArray)]) (t := 46) ?hr ?_; (case hd => rfl); (case hg => rfl); (case hr => first | (go_simp; done) | (go_simp; rfl)); intro gb192 hg w79 hbox hb; have n0_ := Aside0.mk (below_step (W0 HB.out) hb); have n1_ := Aside0.mk (hbox); have n2_ := Aside0.mk ((by rw [hg]; exact (below_size (W0 HB.out)) : w.heap.size ≤ gb192)); have n3_ := Aside0.mk ((by rw [hg]; exact (below_size (W0 HB.out)) : w.heap.size ≤ gb192)); clear HB; have HB := n0_; have BK192 := n1_; have GW192 := n2_; have GE192 := n3_; clear n0_ n1_ n2_ n3_; clear hb hbox hg) | ((with_reducible refine gate_callee (f := 123) rfl ?_); refine goesL_ (some 12) rfl rfl Tryd.func123 (by kernel_rfl) rfl #[.string a0, .int .i64 a1] rfl (by (try simp only [List.map_toArray, List.map_cons, List.map_nil]); first | done | rfl | (simp only [List.length_drop, List.length_take]; rfl) | (simp; done)) ?_; (with_reducible refine (depotref22_word.calls k a0 a1 t193 _ A3.out).mono ?_); rintro e w' ⟨rfl, ⟨nd, rfl⟩⟩; refine ⟨_, rfl, ?_⟩; (try (rw [drewN_self w79]; generalize hq_ : World.drewN w79 _ = w79; have n0_ : Aside0 (w79.heap[gb192]? = some (.cells #[.string (⟨#[]⟩ : ByteArray), .int .i64 0, .string (⟨#[]⟩ : ByteArray)] 46 (0, 0))) := ⟨by rw [← hq_]; exact (Bq BK192.out)⟩; have n1_ : Aside0 (Below w.heap.size w w79) := ⟨by rw [← hq_]; exact (W1 HB.out GE192.out)⟩; clear BK192 HB hq_; have BK192 := n0_; have HB := n1_; clear n0_ n1_)); (try (have hcu192_0 : w79.cell? ⟨gb192, 0, none⟩ = some (.string (⟨#[]⟩ : ByteArray)) := (blk_cell BK192.out 0).trans rfl; have hfu192_0 := blk_frozen BK192.out 0; have hcu192_1 : w79.cell? ⟨gb192, 1, none⟩ = some (.int .i64 0) := (blk_cell BK192.out 1).trans rfl; have hfu192_1 := blk_frozen BK192.out 1; have hcu192_2 : w79.cell? ⟨gb192, 2, none⟩ = some (.string (⟨#[]⟩ : ByteArray)) := (blk_cell BK192.out 2).trans rfl; have hfu192_2 := blk_frozen BK192.out 2))) | ((with_reducible refine gate_dst (N := 8) rfl ?_); refine box_event ?hg (N := 8) ?hd (cs := #[.string (⟨#[]⟩ : ByteArray), .int .i64 0, .string (⟨#[]⟩ : ByteArray)]) (t := 46) ?hr ?_; (case hd => rfl); (case hg => rfl); (case hr => first | (go_simp; done) | (go_simp; rfl)); intro gb194 hg w80 hbox hb; have n0_ := Aside0.mk (blk_below (g := gb192) (o := .cells #[.string (⟨#[]⟩ : ByteArray), .int .i64 0, .string (⟨#[]⟩ : ByteArray)] 46 (0, 0)) (Bq BK192.out) hb); have n1_ := Aside0.mk (below_step (W1 HB.out GE192.out) hb); have n2_ := Aside0.mk (hbox); have n3_ := Aside0.mk ((by rw [hg]; exact (below_size (W1 HB.out GE192.out)) : w.heap.size ≤ gb194)); have n4_ := Aside0.mk ((by rw [hg]; exact (below_size (W1 HB.out GE192.out)) : w.heap.size ≤ gb194)); have n5_ := Aside0.mk ((by rw [hg]; exact Nat.ne_of_lt (blk_lt (g := gb192) (o := .cells #[.string (⟨#[]⟩ : ByteArray), .int .i64 0, .string (⟨#[]⟩ : ByteArray)] 46 (0, 0)) (Bq BK192.out)) : gb192 ≠ gb194)); have n6_ := Aside0.mk ((by rw [hg]; exact Nat.ne_of_gt (blk_lt (g := gb192) (o := .cells #[.string (⟨#[]⟩ : ByteArray), .int .i64 0, .string (⟨#[]⟩ : ByteArray)] 46 (0, 0)) (Bq BK192.out)) : gb194 ≠ gb192)); clear BK192; clear HB; have BK192 := n0_; have HB := n1_; have BK194 := n2_; have GW194 := n3_; have GE194 := n4_; have NB192_194 := n5_; have NB194_192 := n6_; clear n0_ n1_ n2_ n3_ n4_ n5_ n6_; clear hb hbox hg; have hnb81 := NB194_192.out; have hnc81 := NB192_194.out; have hcz82_0 : w80.cell? ⟨gb194, 0, none⟩ = some (.string (⟨#[]⟩ : ByteArray)) := (blk_cell BK194.out 0).trans rfl; have hcz82_1 : w80.cell? ⟨gb194, 1, none⟩ = some (.int .i64 0) := (blk_cell BK194.out 1).trans rfl; have hcz82_2 : w80.cell? ⟨gb194, 2, none⟩ = some (.string (⟨#[]⟩ : ByteArray)) := (blk_cell BK194.out 2).trans rfl; have hfz82_0 := blk_frozen BK194.out 0; have hfz82_1 := blk_frozen BK194.out 1; have hfz82_2 := blk_frozen BK194.out 2) | ((with_reducible refine gate_callee (f := 51) rfl ?_); refine goesL_ (some 25) rfl rfl Tryd.func51 (by kernel_rfl) rfl #[.string (a0.extract (a1 : Int).toNat (t193 : Int).toNat)] rfl (by (try simp only [List.map_toArray, List.map_cons, List.map_nil]); first | done | rfl | (simp only [List.length_drop, List.length_take]; rfl) | (simp; done)) ?_; (with_reducible refine (depotref22_Name.calls k (a0.extract (a1 : Int).toNat (t193 : Int).toNat) false _ A10.out).mono ?_); rintro e w' ⟨rfl, ⟨nd, rfl⟩⟩; refine ⟨_, rfl, ?_⟩; have hcz83_0 : w80.cell? ⟨gb192, 0, none⟩ = some (.string (⟨#[]⟩ : ByteArray)) := (blk_cell BK192.out 0).trans rfl; have hcz83_1 : w80.cell? ⟨gb192, 1, none⟩ = some (.int .i64 0) := (blk_cell BK192.out 1).trans rfl; have hcz83_2 : w80.cell? ⟨gb192, 2, none⟩ = some (.string (⟨#[]⟩ : ByteArray)) := (blk_cell BK192.out 2).trans rfl; have hfz83_0 := blk_frozen BK192.out 0; have hfz83_1 := blk_frozen BK192.out 1; have hfz83_2 := blk_frozen BK192.out 2))
      refine bodyPost_ret (results_ctt rfl _ _ gb192 46 #[.string (⟨#[]⟩ : ByteArray), .int .i64 0, .string (⟨#[]⟩ : ByteArray)] (0, 0) _ rfl (by (with_reducible repeat (first | refine blk_drewN ?_ _ | refine blk_drew ?_ | refine blk_alloc ?_ _)); refine blk_put (cs := #[.string (⟨#[]⟩ : ByteArray), .int .i64 0, .string (⟨#[]⟩ : ByteArray)]) ?_ 2 _ rfl; (with_reducible repeat (first | refine blk_drewN ?_ _ | refine blk_drew ?_ | refine blk_alloc ?_ _)); refine blk_put (cs := #[.string (⟨#[]⟩ : ByteArray), .int .i64 0, .string (⟨#[]⟩ : ByteArray)]) ?_ 1 _ rfl; (with_reducible repeat (first | refine blk_drewN ?_ _ | refine blk_drew ?_ | refine blk_alloc ?_ _)); refine blk_put (cs := #[.string (⟨#[]⟩ : ByteArray), .int .i64 0, .string (⟨#[]⟩ : ByteArray)]) ?_ 0 _ rfl; (with_reducible repeat (first | refine blk_drewN ?_ _ | refine blk_drew ?_ | refine blk_alloc ?_ _)); refine blk_far ?_ NB192_194.out _; (with_reducible repeat (first | refine blk_drewN ?_ _ | refine blk_drew ?_ | refine blk_alloc ?_ _)); refine blk_far ?_ NB192_194.out _; (with_reducible repeat (first | refine blk_drewN ?_ _ | refine blk_drew ?_ | refine blk_alloc ?_ _)); refine blk_far ?_ NB192_194.out _; (with_reducible repeat (first | refine blk_drewN ?_ _ | refine blk_drew ?_ | refine blk_alloc ?_ _)); exact BK192.out) Tryd.underlying46 rfl (by kernel_rfl)) rfl ?_
      exact ⟨by first | rfl | (simp [errW_none, errW_some] <;> rfl) | (simp [*, errW_none, errW_some] <;> rfl) | (simp [errW_none, errW_some, Go.Proofs.YtmocooihkobdjaaDoor.listNe]; done), by repeat (first | (with_reducible first | exact HB.out | apply below_alloc | apply pw_below_drewN | apply below_drew1 | refine below_set ?_ GE192.out | refine below_set ?_ GE194.out) | exact HB.out)⟩
    ·rw [if_neg c9] at H
     exact absurd H (by simp)
   ·rw [if_neg c8] at H
    exact absurd H (by simp)
  ·rw [if_neg c7] at H
   exact absurd H (by simp)
end Go.Proofs.YtmocooihkobdjaaDoor.Q
end
section
namespace Go.Proofs.YtmocooihkobdjaaDoor.Q
open Go.RowKit Go.Proofs.YtmocooihkobdjaaDoorW.PrintWords Go.Proofs.YtmocooihkobdjaaDoorW.PrintLast Go.Proofs.YtmocooihkobdjaaDoorW.PrintMore
attribute [local go_sem] max2_int min2_int max_two min_two max_three min_three max_four min_four
set_option linter.unusedVariables false
set_option linter.unusedSimpArgs false
mutual
def depotref22_lists.l0 : Nat → ByteArray → Bool → List (List (S46)) → Int → List (S46) → Option ((List (List (S46))) × Int × Int)
 | 0, _, _, _, _, _ => none
 | k + 1, x0, x1, x7, x8, x9 => (depotref22_one.f k x0 x8).bind fun bt206 => (if bt206.2.2.2.1 = 0 then (if x9.length < 3518437208883 then ((some (x9 ++ [(⟨bt206.1, bt206.2.1, bt206.2.2.1⟩ : S46)] : List (S46))).bind fun y212 => (if bt206.2.2.2.2 < (x0.size : Int) then (if 0 ≤ bt206.2.2.2.2 then (if (bt x0 bt206.2.2.2.2) = 124 then (depotref22_lists.j1 k x0 x1 x7 bt206.2.2.2.2 y212 x1) else (depotref22_lists.j1 k x0 x1 x7 bt206.2.2.2.2 y212 false)) else (none)) else (depotref22_lists.j1 k x0 x1 x7 bt206.2.2.2.2 y212 false))) else (none)) else (some (([] : List (List (S46))), bt206.2.2.2.1, bt206.2.2.2.2)))
def depotref22_lists.j1 : Nat → ByteArray → Bool → List (List (S46)) → Int → List (S46) → Bool → Option ((List (List (S46))) × Int × Int)
 | 0, _, _, _, _, _, _ => none
 | k + 1, x0, x1, x7, x8, x9, x47 => if x47 = true then ((depotref22_behind.f k x0 (wrap64 (x8 + 1))).bind fun t215 => (depotref22_lists.l0 k x0 x1 x7 t215 x9)) else (if x7.length < 5864062014805 then ((some (x7 ++ [x9] : List (List (S46)))).bind fun y216 => (if x8 = (x0.size : Int) then (some (y216, 0, 0)) else (if 0 ≤ x8 then (if x8 < (x0.size : Int) then (if (bt x0 x8) = 44 then ((depotref22_behind.f k x0 (wrap64 (x8 + 1))).bind fun t219 => (depotref22_lists.l0 k x0 x1 y216 t219 ([] : List (S46)))) else (some (([] : List (List (S46))), 220, x8))) else (none)) else (none)))) else (none))
end
def depotref22_lists.f (k : Nat) (a0 : ByteArray) (a1 : Bool) : Option ((List (List (S46))) × Int × Int) := (depotref22_behind.f k a0 0).bind fun t205 => (if t205 = (a0.size : Int) then (some (([] : List (List (S46))), 0, 0)) else (depotref22_lists.l0 k a0 a1 ([] : List (List (S46))) t205 ([] : List (S46))))
theorem depotref22_lists.mono_l : ∀ k, (∀ y0 y1 y2 y3 y4, LeO (depotref22_lists.l0 k y0 y1 y2 y3 y4) (depotref22_lists.l0 (k + 1) y0 y1 y2 y3 y4)) ∧ (∀ y0 y1 y2 y3 y4 y5, LeO (depotref22_lists.j1 k y0 y1 y2 y3 y4 y5) (depotref22_lists.j1 (k + 1) y0 y1 y2 y3 y4 y5))
 | 0 => ⟨fun _ _ _ _ _ r h => by simp [depotref22_lists.l0] at h, fun _ _ _ _ _ _ r h => by simp [depotref22_lists.j1] at h⟩
 | k + 1 => by
  obtain ⟨ih0, ih1⟩ := depotref22_lists.mono_l k
  refine ⟨?_, ?_⟩
  ·intro y0 y1 y2 y3 y4
   unfold depotref22_lists.l0
   repeat' first
   | (with_reducible exact ih0 _ _ _ _ _)
   | (with_reducible exact ih1 _ _ _ _ _ _)
   | (with_reducible exact depotref22_behind.mono _ _ _)
   | (with_reducible exact depotref22_one.mono _ _ _)
   | (with_reducible exact LeO.refl _)
   | (with_reducible exact LeO.none _)
   | (with_reducible refine LeO.ite ?_ ?_)
   | (with_reducible refine LeO.bind ?_ (fun _ => ?_))
   | exact ih0 _ _ _ _ _
   | exact ih1 _ _ _ _ _ _
   | exact depotref22_behind.mono _ _ _
   | exact depotref22_one.mono _ _ _
   | exact LeO.none _
   | refine LeO.ite ?_ ?_
   | refine LeO.bind ?_ (fun _ => ?_)
  ·intro y0 y1 y2 y3 y4 y5
   unfold depotref22_lists.j1
   repeat' first
   | (with_reducible exact ih0 _ _ _ _ _)
   | (with_reducible exact ih1 _ _ _ _ _ _)
   | (with_reducible exact depotref22_behind.mono _ _ _)
   | (with_reducible exact depotref22_one.mono _ _ _)
   | (with_reducible exact LeO.refl _)
   | (with_reducible exact LeO.none _)
   | (with_reducible refine LeO.ite ?_ ?_)
   | (with_reducible refine LeO.bind ?_ (fun _ => ?_))
   | exact ih0 _ _ _ _ _
   | exact ih1 _ _ _ _ _ _
   | exact depotref22_behind.mono _ _ _
   | exact depotref22_one.mono _ _ _
   | exact LeO.none _
   | refine LeO.ite ?_ ?_
   | refine LeO.bind ?_ (fun _ => ?_)
theorem depotref22_lists.mono : ∀ a0 a1 k, LeO (depotref22_lists.f k a0 a1) (depotref22_lists.f (k + 1) a0 a1) := by
 intro a0 a1 k
 obtain ⟨ih0, ih1⟩ := depotref22_lists.mono_l k
 unfold depotref22_lists.f
 repeat' first
   | (with_reducible exact ih0 _ _ _ _ _)
   | (with_reducible exact ih1 _ _ _ _ _ _)
   | (with_reducible exact depotref22_behind.mono _ _ _)
   | (with_reducible exact depotref22_one.mono _ _ _)
   | (with_reducible exact LeO.refl _)
   | (with_reducible exact LeO.none _)
   | (with_reducible refine LeO.ite ?_ ?_)
   | (with_reducible refine LeO.bind ?_ (fun _ => ?_))
   | exact ih0 _ _ _ _ _
   | exact ih1 _ _ _ _ _ _
   | exact depotref22_behind.mono _ _ _
   | exact depotref22_one.mono _ _ _
   | exact LeO.none _
   | refine LeO.ite ?_ ?_
   | refine LeO.bind ?_ (fun _ => ?_)
set_option maxHeartbeats 8000000 in
set_option maxRecDepth 100000 in
theorem depotref22_lists.calls (k : Nat) (a0 : ByteArray) (a1 : Bool) (r1 : List (List (S46))) (r2 : Int) (r3 : Int) (w : World) (h : depotref22_lists.f k a0 a1 = some (r1, r2, r3)) :
  Calls Tryd.prog 90 #[.string a0, .bool a1] w fun e w' => ∃ v0_ : Value, e = .returned (.tuple #[v0_, .int .i64 r2, .int .i64 r3]) ∧ Kd.S (Kd.slice 46 k46) 23 w' w.heap.size (fun _ => True) v0_ r1 ∧ Below w.heap.size w w' := by
 have hu46 := Tryd.underlying46
 have HB := Aside0.mk (Below.refl w.heap.size w)
 have H : ((depotref22_behind.f k a0 0).bind fun t205 => (if t205 = (a0.size : Int) then (some (([] : List (List (S46))), 0, 0)) else (depotref22_lists.l0 k a0 a1 ([] : List (List (S46))) t205 ([] : List (S46))))) = some (r1, r2, r3) := h
 clear h
 replace H := Option.bind_eq_some_iff.mp H
 obtain ⟨t205, A30, H⟩ := H
 replace H : (if t205 = (a0.size : Int) then (some (([] : List (List (S46))), 0, 0)) else (depotref22_lists.l0 k a0 a1 ([] : List (List (S46))) t205 ([] : List (S46)))) = some (r1, r2, r3) := H
 have A3 := Aside0.mk A30
 clear A30
 by_cases c4 : t205 = (a0.size : Int)
 ·rw [if_pos c4] at H
  have c4b0 : (t205 == (a0.size : Int)) = true := beq_iff_eq.mpr c4
  have c4b1 : (t205 != (a0.size : Int)) = false := bne_eq_false_iff_eq.mpr c4
  clear c4
  simp only [Option.some.injEq, Prod.mk.injEq] at H
  obtain ⟨rfl, rfl, rfl⟩ := H
  go_enter Tryd.func90, Tryd.ntmps90
  go_wp2_with (first | ((with_reducible refine gate_callee (f := 110) rfl ?_); refine goesL_ (some 14) rfl rfl Tryd.func110 (by kernel_rfl) rfl #[.string a0, .int .i64 0] rfl (by (try simp only [List.map_toArray, List.map_cons, List.map_nil]); first | done | rfl | (simp only [List.length_drop, List.length_take]; rfl) | (simp; done)) ?_; (with_reducible refine (depotref22_behind.calls k a0 0 t205 _ A3.out).mono ?_); rintro e w' ⟨rfl, ⟨nd, rfl⟩⟩; refine ⟨_, rfl, ?_⟩))
  go_ret3
  exact ⟨_, by first | rfl | (simp [errW_none, errW_some] <;> rfl) | (simp [*, errW_none, errW_some] <;> rfl) | (simp [errW_none, errW_some, Go.Proofs.YtmocooihkobdjaaDoor.listNe]; done), by first | exact Kd.S_nil _ _ _ _ _ | exact Kd.N_nil _ _ _ _ _ | exact Kd.V_nil _ _ _ _ _ | exact Kd.Q_nil _ _ _ _ _ | exact Kd.R_nil _ _ _ _ _, by repeat (first | (with_reducible first | exact HB.out | apply below_alloc | apply pw_below_drewN | apply below_drew1) | exact HB.out)⟩
 ·rw [if_neg c4] at H
  have c4b0 : (t205 == (a0.size : Int)) = false := beq_eq_false_iff_ne.mpr c4
  have c4b1 : (t205 != (a0.size : Int)) = true := bne_iff_ne.mpr c4
  have H' := Aside0.mk H
  clear H
  go_enter Tryd.func90, Tryd.ntmps90
  go_wp2_with (first | ((with_reducible refine gate_callee (f := 110) rfl ?_); refine goesL_ (some 14) rfl rfl Tryd.func110 (by kernel_rfl) rfl #[.string a0, .int .i64 0] rfl (by (try simp only [List.map_toArray, List.map_cons, List.map_nil]); first | done | rfl | (simp only [List.length_drop, List.length_take]; rfl) | (simp; done)) ?_; (with_reducible refine (depotref22_behind.calls k a0 0 t205 _ A3.out).mono ?_); rintro e w' ⟨rfl, ⟨nd, rfl⟩⟩; refine ⟨_, rfl, ?_⟩))
  go_loopg [7, 8, 9] k (fun kq v7 v8 v9 w' => ∃ (x7_1 : List (List (S46))) (x8_1 : Int) (x9_1 : List (S46)), v8 = .int .i64 x8_1 ∧ Aside0 (depotref22_lists.l0 kq a0 a1 x7_1 x8_1 x9_1 = some (r1, r2, r3)) ∧ Aside0 (kq ≤ k) ∧ Aside0 (Kd.S (Kd.slice 46 k46) 23 w' w.heap.size (fun k_ => some k_ ≠ (v9 : Value).ownBlock) v7 x7_1) ∧ Aside0 (Kd.R k46 46 w' w.heap.size (fun _ => True) v9 x9_1) ∧ Aside0 (Below w.heap.size w w'))
  case atStart => exact ⟨(([] : List (List (S46)))), (t205), (([] : List (S46))), (by first | rfl | (simp; done) | (simp [*]; done)), H', ⟨Nat.le_refl _⟩, ⟨by first | exact Kd.S_nil _ _ _ _ _ | exact Kd.N_nil _ _ _ _ _ | exact Kd.V_nil _ _ _ _ _ | exact Kd.Q_nil _ _ _ _ _ | exact Kd.R_nil _ _ _ _ _⟩, ⟨by first | exact Kd.R_nil _ _ _ _ _ | exact Kd.N_nil _ _ _ _ _ | exact Kd.V_nil _ _ _ _ _ | exact Kd.Q_nil _ _ _ _ _ | exact Kd.S_nil _ _ _ _ _⟩, ⟨by repeat (first | (with_reducible first | exact HB.out | apply below_alloc | apply pw_below_drewN | apply below_drew1) | exact HB.out)⟩⟩
  case round =>
   clear H'
   try clear c1
   try clear p2
   try clear c4
   try clear c4b0
   try clear c4b1
   obtain ⟨x7_1, x8_1, x9_1, rfl, HA, HK1, HO_7, HO_9, HB⟩ := hrel
   cases gk with
   | zero => exact absurd HA.out (by simp [depotref22_lists.l0])
   | succ k1 =>
    have H := HA.out
    clear HA
    simp only [depotref22_lists.l0] at H
    replace H := Option.bind_eq_some_iff.mp H
    obtain ⟨⟨t206, t207, t208, t209, t210⟩, A50, H⟩ := H
    replace H : (if t209 = 0 then (if x9_1.length < 3518437208883 then ((some (x9_1 ++ [(⟨t206, t207, t208⟩ : S46)] : List (S46))).bind fun y212 => (if t210 < (a0.size : Int) then (if 0 ≤ t210 then (if (bt a0 t210) = 124 then (depotref22_lists.j1 k1 a0 a1 x7_1 t210 y212 a1) else (depotref22_lists.j1 k1 a0 a1 x7_1 t210 y212 false)) else (none)) else (depotref22_lists.j1 k1 a0 a1 x7_1 t210 y212 false))) else (none)) else (some (([] : List (List (S46))), t209, t210))) = some (r1, r2, r3) := H
    have A5 := Aside0.mk A50
    clear A50
    by_cases c6 : t209 = 0
    ·rw [if_pos c6] at H
     have c6b0 : (t209 == 0) = true := beq_iff_eq.mpr c6
     have c6b1 : (t209 != 0) = false := bne_eq_false_iff_eq.mpr c6
     clear c6
     by_cases c7 : x9_1.length < 3518437208883
     ·rw [if_pos c7] at H
      have LMc7 := Aside0.mk c7
      clear c7
      obtain ⟨y212, hy212⟩ : ∃ y_ : List (S46), y_ = (x9_1 ++ [(⟨t206, t207, t208⟩ : S46)]) := ⟨_, rfl⟩
      replace H : (if t210 < (a0.size : Int) then (if 0 ≤ t210 then (if (bt a0 t210) = 124 then (depotref22_lists.j1 k1 a0 a1 x7_1 t210 y212 a1) else (depotref22_lists.j1 k1 a0 a1 x7_1 t210 y212 false)) else (none)) else (depotref22_lists.j1 k1 a0 a1 x7_1 t210 y212 false)) = some (r1, r2, r3) := by first | (rw [hy212]; with_reducible exact H) | (have H2_ := (Option.bind_some _ _).symm.trans H; rw [hy212]; with_reducible exact H2_) | (have H2_ := (Option.bind_some _ _).symm.trans H; with_reducible exact H2_) | with_reducible exact H | (rw [hy212]; exact H) | exact H
      have Ny212 := Aside0.mk hy212
      clear hy212
      have HC8 := Aside0.mk H
      clear H
      go_upto_region 11 with (first | ((with_reducible refine gate_callee (f := 111) rfl ?_); refine goesL_ (some 22) rfl rfl Tryd.func111 (by kernel_rfl) rfl #[.string a0, .int .i64 x8_1] rfl (by (try simp only [List.map_toArray, List.map_cons, List.map_nil]); first | done | rfl | (simp only [List.length_drop, List.length_take]; rfl) | (simp; done)) ?_; (with_reducible refine (depotref22_one.calls k1 a0 x8_1 t206 t207 t208 t209 t210 _ A5.out).mono ?_); rintro e w9 ⟨rfl, hb⟩; refine ⟨_, rfl, ?_⟩; have n0_ := Aside0.mk (Kd.S_below (Sq HO_7.out) hb); have n1_ := Aside0.mk (Kd.R_below (Rq HO_9.out) hb); have n2_ := Aside0.mk (below_step (W0 HB.out) hb); clear HO_7; clear HO_9; clear HB; have HO_7 := n0_; have HO_9 := n1_; have HB := n2_; clear n0_ n1_ n2_; (try clear hb); (try clear hb2); (try clear hk); (try clear hi)) | ((with_reducible refine gate_dst (N := 10) rfl ?_); refine box_event ?hg (N := 10) ?hd (cs := #[.string (⟨#[]⟩ : ByteArray), .int .i64 0, .string (⟨#[]⟩ : ByteArray)]) (t := 46) ?hr ?_; (case hd => rfl); (case hg => rfl); (case hr => first | (go_simp; done) | (go_simp; rfl)); intro gb211 hg w10 hbox hb; have n0_ := Aside0.mk (Kd.S_below (Kd.S_elderB (Sq HO_7.out) gb211 (Nat.le_of_eq hg.symm)) hb); have n1_ := Aside0.mk (Kd.R_below (Kd.R_elderB (Rq HO_9.out) gb211 (Nat.le_of_eq hg.symm)) hb); have n2_ := Aside0.mk (below_step (W0 HB.out) hb); have n3_ := Aside0.mk (hbox); have n4_ := Aside0.mk ((by rw [hg]; exact (below_size (W0 HB.out)) : w.heap.size ≤ gb211)); have n5_ := Aside0.mk ((by rw [hg]; exact (below_size (W0 HB.out)) : w.heap.size ≤ gb211)); clear HO_7; clear HO_9; clear HB; have HO_7 := n0_; have HO_9 := n1_; have HB := n2_; have BK211 := n3_; have GW211 := n4_; have GE211 := n5_; clear n0_ n1_ n2_ n3_ n4_ n5_; clear hb hbox hg; have hcz11_0 : w10.cell? ⟨gb211, 0, none⟩ = some (.string (⟨#[]⟩ : ByteArray)) := (blk_cell BK211.out 0).trans rfl; have hcz11_1 : w10.cell? ⟨gb211, 1, none⟩ = some (.int .i64 0) := (blk_cell BK211.out 1).trans rfl; have hcz11_2 : w10.cell? ⟨gb211, 2, none⟩ = some (.string (⟨#[]⟩ : ByteArray)) := (blk_cell BK211.out 2).trans rfl; have hfz11_0 := blk_frozen BK211.out 0; have hfz11_1 := blk_frozen BK211.out 1; have hfz11_2 := blk_frozen BK211.out 2) | ((with_reducible refine gate_builtin (b := .append) (xs := #[.tmp 30, .tmp 32]) rfl ?_); at_builtin; refine Kd.R_append k46 (w0 := w) w.heap.size rfl (.tmp 30) (.tmp 32) 23 46 (.agg #[(.string ⟨#[]⟩), (.int .i64 0), (.string ⟨#[]⟩)]) 40 rfl Tryd.underlying23 info46 rfl (by decide) (by omega) u9 x9_1 (⟨t206, t207, t208⟩ : S46) [.string t206, .int .i64 t207, .string t208] (fun k_ => k_ ≠ gb211) (fun _ => False) rfl (by first | (go_simp; done) | (go_simp; rfl)) ?aP (fun _ hk => hk.elim) ?aF ?aO ?aB ?aS ?aL ?_; (case aP => exact k46_mkM _ _ _ (⟨t206, t207, t208⟩ : S46)); (case aB => exact (W1 HB.out GE211.out)); (case aF => exact (fun k_ hk => Kd.freshB (g := gb211) (o := .cells #[.string t206, .int .i64 t207, .string t208] 46 (0, 0)) (by (with_reducible repeat (first | refine blk_drewN ?_ _ | refine blk_drew ?_ | refine blk_alloc ?_ _)); refine blk_put (cs := #[.string t206, .int .i64 t207, .string (⟨#[]⟩ : ByteArray)]) ?_ 2 _ rfl; (with_reducible repeat (first | refine blk_drewN ?_ _ | refine blk_drew ?_ | refine blk_alloc ?_ _)); refine blk_put (cs := #[.string t206, .int .i64 0, .string (⟨#[]⟩ : ByteArray)]) ?_ 1 _ rfl; (with_reducible repeat (first | refine blk_drewN ?_ _ | refine blk_drew ?_ | refine blk_alloc ?_ _)); refine blk_put (cs := #[.string (⟨#[]⟩ : ByteArray), .int .i64 0, .string (⟨#[]⟩ : ByteArray)]) ?_ 0 _ rfl; (with_reducible repeat (first | refine blk_drewN ?_ _ | refine blk_drew ?_ | refine blk_alloc ?_ _)); exact BK211.out) k_ hk)); (case aO => exact (by (with_reducible repeat (first | apply Kd.R_alloc | apply Kd.R_drewN | apply Kd.R_drew)); exact Kd.R_mono (Kd.R_far (p := ⟨gb211, 2, none⟩) (Kd.R_far (p := ⟨gb211, 1, none⟩) (Kd.R_far (p := ⟨gb211, 0, none⟩) (Kd.R_mono HO_9.out (fun k_ hk => (⟨hk, hk.2⟩ : _ ∧ k_ ≠ gb211))) (fun _ hk => hk.2) (.string t206)) (fun _ hk => hk.2) (.int .i64 t207)) (fun _ hk => hk.2) (.string t208)) (fun _ hk => hk.1.2))); (case aS => exact (below_size (W1 HB.out GE211.out))); (case aL => have := LMc7.out; omega); intro v213 w12 ho hb hg hat; rw [← Ny212.out] at ho; have n0_ := Aside0.mk (Kd.S_after (ok := (fun k_ => k_ ≠ gb211)) (by (with_reducible repeat (first | apply Kd.S_alloc | apply Kd.S_drewN | apply Kd.S_drew)); exact Kd.S_mono (Kd.S_far (p := ⟨gb211, 2, none⟩) (Kd.S_far (p := ⟨gb211, 1, none⟩) (Kd.S_far (p := ⟨gb211, 0, none⟩) (Kd.S_mono HO_7.out (fun k_ hk => (⟨hk, hk.2⟩ : _ ∧ k_ ≠ gb211))) (fun _ hk => hk.2) (.string t206)) (fun _ hk => hk.2) (.int .i64 t207)) (fun _ hk => hk.2) (.string t208)) (fun _ hk => ⟨hk.1.2, hk.1.1⟩)) hg hat); have n1_ := Aside0.mk (blk_grown (g := gb211) (o := .cells #[.string t206, .int .i64 t207, .string t208] 46 (0, 0)) (by (with_reducible repeat (first | refine blk_drewN ?_ _ | refine blk_drew ?_ | refine blk_alloc ?_ _)); refine blk_put (cs := #[.string t206, .int .i64 t207, .string (⟨#[]⟩ : ByteArray)]) ?_ 2 _ rfl; (with_reducible repeat (first | refine blk_drewN ?_ _ | refine blk_drew ?_ | refine blk_alloc ?_ _)); refine blk_put (cs := #[.string t206, .int .i64 0, .string (⟨#[]⟩ : ByteArray)]) ?_ 1 _ rfl; (with_reducible repeat (first | refine blk_drewN ?_ _ | refine blk_drew ?_ | refine blk_alloc ?_ _)); refine blk_put (cs := #[.string (⟨#[]⟩ : ByteArray), .int .i64 0, .string (⟨#[]⟩ : ByteArray)]) ?_ 0 _ rfl; (with_reducible repeat (first | refine blk_drewN ?_ _ | refine blk_drew ?_ | refine blk_alloc ?_ _)); exact BK211.out) hg (Kd.R_away HO_9.out (fun _ hk => hk.2))); have n2_ := Aside0.mk (hb); have n3_ := Aside0.mk (ho); clear HO_7; clear BK211; clear HB; clear HO_9; have HO_7 := n0_; have BK211 := n1_; have HB := n2_; have HO214 := n3_; clear n0_ n1_ n2_ n3_; clear ho hb hg hat))
      (try simp only [Act.put, List.setIfInBounds_toArray, List.set_cons_zero, List.set_cons_succ])
      go_cut [47] (fun v47 wc => ∃ (kq : Nat) (x47_7 : Bool), v47 = .bool x47_7 ∧ Aside0 (depotref22_lists.j1 kq a0 a1 x7_1 t210 y212 x47_7 = some (r1, r2, r3)) ∧ Aside0 (kq ≤ k1) ∧ Aside0 (Kd.S (Kd.slice 46 k46) 23 wc w.heap.size (fun k_ => some k_ ≠ (v213 : Value).ownBlock ∧ k_ ≠ gb211) u7 x7_1) ∧ Aside0 (Kd.R k46 46 wc w.heap.size (fun k_ => k_ ≠ gb211) v213 y212) ∧ Aside0 (wc.heap[gb211]? = some (.cells #[.string t206, .int .i64 t207, .string t208] 46 (0, 0))) ∧ Aside0 (Below w.heap.size w wc))
      case first =>
       have H := HC8.out
       clear HC8
       by_cases c13 : t210 < (a0.size : Int)
       ·rw [if_pos c13] at H
        have c13b0 : decide (t210 < (a0.size : Int)) = true := decide_eq_true c13
        clear c13
        (first | rw [c13b0] | (simp only [i64_w, i32_w]; rw [c13b0]) | skip)
        by_cases c14 : 0 ≤ t210
        ·rw [if_pos c14] at H
         have c14b0 : decide (0 ≤ t210) = true := decide_eq_true c14
         clear c14
         by_cases c16 : (bt a0 t210) = 124
         ·rw [if_pos c16] at H
          have c16b0 : ((bt a0 t210) == 124) = true := beq_iff_eq.mpr c16
          have c16b1 : ((bt a0 t210) != 124) = false := bne_eq_false_iff_eq.mpr c16
          clear c16
          have H' := Aside0.mk H
          clear H
          have p15 : 0 ≤ (t210 : Int) := of_decide_eq_true (by first | (with_reducible assumption) | assumption)
          have q15 : t210 < (a0.size : Int) := of_decide_eq_true (by first | (with_reducible assumption) | assumption)
          have hx15 := bt_at a0 t210
          replace p15 := eq_true p15
          replace q15 := eq_true q15
          go_wp2
          go_meet
          case rel => exact ⟨_, (a1), (by first | rfl | (simp; done) | (simp [*]; done)), H', ⟨by have := HK1.out; first | omega | exact Nat.le_refl _⟩, ⟨by (with_reducible repeat (first | apply Kd.S_alloc | apply Kd.S_drewN | apply Kd.S_drew)); exact Kd.S_mono HO_7.out (fun _ hk => ⟨hk.2, hk.1⟩)⟩, ⟨by (with_reducible repeat (first | apply Kd.R_alloc | apply Kd.R_drewN | apply Kd.R_drew)); exact HO214.out⟩, ⟨by (with_reducible repeat (first | refine blk_drewN ?_ _ | refine blk_drew ?_ | refine blk_alloc ?_ _)); exact BK211.out⟩, ⟨by repeat (first | (with_reducible first | exact HB.out | apply below_alloc | apply pw_below_drewN | apply below_drew1 | refine below_set ?_ GE211.out) | exact HB.out)⟩⟩
         ·rw [if_neg c16] at H
          have c16b0 : ((bt a0 t210) == 124) = false := beq_eq_false_iff_ne.mpr c16
          have c16b1 : ((bt a0 t210) != 124) = true := bne_iff_ne.mpr c16
          have H' := Aside0.mk H
          clear H
          have p15 : 0 ≤ (t210 : Int) := of_decide_eq_true (by first | (with_reducible assumption) | assumption)
          have q15 : t210 < (a0.size : Int) := of_decide_eq_true (by first | (with_reducible assumption) | assumption)
          have hx15 := bt_at a0 t210
          replace p15 := eq_true p15
          replace q15 := eq_true q15
          go_wp2
          go_meet
          case rel => exact ⟨_, (false), (by first | rfl | (simp; done) | (simp [*]; done)), H', ⟨by have := HK1.out; first | omega | exact Nat.le_refl _⟩, ⟨by (with_reducible repeat (first | apply Kd.S_alloc | apply Kd.S_drewN | apply Kd.S_drew)); exact Kd.S_mono HO_7.out (fun _ hk => ⟨hk.2, hk.1⟩)⟩, ⟨by (with_reducible repeat (first | apply Kd.R_alloc | apply Kd.R_drewN | apply Kd.R_drew)); exact HO214.out⟩, ⟨by (with_reducible repeat (first | refine blk_drewN ?_ _ | refine blk_drew ?_ | refine blk_alloc ?_ _)); exact BK211.out⟩, ⟨by repeat (first | (with_reducible first | exact HB.out | apply below_alloc | apply pw_below_drewN | apply below_drew1 | refine below_set ?_ GE211.out) | exact HB.out)⟩⟩
        ·rw [if_neg c14] at H
         exact absurd H (by simp)
       ·rw [if_neg c13] at H
        have c13b0 : decide (t210 < (a0.size : Int)) = false := decide_eq_false c13
        clear c13
        (first | rw [c13b0] | (simp only [i64_w, i32_w]; rw [c13b0]) | skip)
        have H' := Aside0.mk H
        clear H
        go_wp2
        go_meet
        case rel => exact ⟨_, (false), (by first | rfl | (simp; done) | (simp [*]; done)), H', ⟨by have := HK1.out; first | omega | exact Nat.le_refl _⟩, ⟨by (with_reducible repeat (first | apply Kd.S_alloc | apply Kd.S_drewN | apply Kd.S_drew)); exact Kd.S_mono HO_7.out (fun _ hk => ⟨hk.2, hk.1⟩)⟩, ⟨by (with_reducible repeat (first | apply Kd.R_alloc | apply Kd.R_drewN | apply Kd.R_drew)); exact HO214.out⟩, ⟨by (with_reducible repeat (first | refine blk_drewN ?_ _ | refine blk_drew ?_ | refine blk_alloc ?_ _)); exact BK211.out⟩, ⟨by repeat (first | (with_reducible first | exact HB.out | apply below_alloc | apply pw_below_drewN | apply below_drew1 | refine below_set ?_ GE211.out) | exact HB.out)⟩⟩
      case rest =>
       clear HC8
       try clear c1
       try clear p1
       try clear q1
       try clear hx1
       try clear p2
       try clear c4
       try clear c4b0
       try clear c4b1
       try clear c6
       try clear c6b0
       try clear c6b1
       try clear c7
       try clear c9
       try clear c11
       try clear c13
       try clear c13b0
       try clear c14
       try clear c14b0
       try clear p15
       try clear q15
       try clear hx15
       try clear c16
       try clear c16b0
       try clear c16b1
       try clear hcz11_0
       try clear hcz11_1
       try clear hcz11_2
       try clear hfz11_0
       try clear hfz11_1
       try clear hfz11_2
       try clear p15
       try clear p2
       try clear q15
       obtain ⟨kq, x47_7, rfl, HA, HJ7, HO_7, HO_9, BK211, HB⟩ := hcut
       cases kq with
       | zero => exact absurd HA.out (by simp [depotref22_lists.j1])
       | succ kj7 =>
        have H := HA.out
        clear HA
        simp only [depotref22_lists.j1] at H
        by_cases c17 : x47_7 = true
        ·subst c17
         have H1 : ((depotref22_behind.f kj7 a0 (wrap64 (t210 + 1))).bind fun t215 => (depotref22_lists.l0 kj7 a0 a1 x7_1 t215 y212)) = some (r1, r2, r3) := by rw [if_pos rfl] at H; exact H
         clear H
         have H := H1
         clear H1
         replace H := Option.bind_eq_some_iff.mp H
         obtain ⟨t215, A180, H⟩ := H
         replace H : (depotref22_lists.l0 kj7 a0 a1 x7_1 t215 y212) = some (r1, r2, r3) := H
         have A18 := Aside0.mk A180
         clear A180
         have H' := Aside0.mk H
         clear H
         go_wp2_with (first | ((with_reducible refine gate_callee (f := 110) rfl ?_); refine goesL_ (some 51) rfl rfl Tryd.func110 (by kernel_rfl) rfl #[.string a0, .int .i64 (wrap64 (t210 + 1))] rfl (by (try simp only [List.map_toArray, List.map_cons, List.map_nil]); first | done | rfl | (simp only [List.length_drop, List.length_take]; rfl) | (simp; done)) ?_; (with_reducible refine (depotref22_behind.calls kj7 a0 (wrap64 (t210 + 1)) t215 _ A18.out).mono ?_); rintro e w' ⟨rfl, ⟨nd, rfl⟩⟩; refine ⟨_, rfl, ?_⟩))
         go_roundg kj7
         case measure => have := HK1.out; have := HJ7.out; omega
         case rel => exact ⟨(x7_1), (t215), (y212), (by first | rfl | (simp; done) | (simp [*]; done)), H', ⟨by have := HK1.out; have := HJ7.out; omega⟩, ⟨by (with_reducible repeat (first | apply Kd.S_alloc | apply Kd.S_drewN | apply Kd.S_drew)); exact Kd.S_mono HO_7.out (fun _ hk => hk.1)⟩, ⟨by (with_reducible repeat (first | apply Kd.R_alloc | apply Kd.R_drewN | apply Kd.R_drew)); exact Kd.R_mono HO_9.out (fun _ hk => trivial)⟩, ⟨by repeat (first | (with_reducible first | exact HB.out | apply below_alloc | apply pw_below_drewN | apply below_drew1 | refine below_set ?_ GE211.out) | exact HB.out)⟩⟩
        ·replace c17 := Bool.eq_false_iff.mpr c17
         subst c17
         have H1 : (if x7_1.length < 5864062014805 then ((some (x7_1 ++ [y212] : List (List (S46)))).bind fun y216 => (if t210 = (a0.size : Int) then (some (y216, 0, 0)) else (if 0 ≤ t210 then (if t210 < (a0.size : Int) then (if (bt a0 t210) = 44 then ((depotref22_behind.f kj7 a0 (wrap64 (t210 + 1))).bind fun t219 => (depotref22_lists.l0 kj7 a0 a1 y216 t219 ([] : List (S46)))) else (some (([] : List (List (S46))), 220, t210))) else (none)) else (none)))) else (none)) = some (r1, r2, r3) := by rw [if_neg (show ¬ (false = true) by decide)] at H; exact H
         clear H
         have H := H1
         clear H1
         by_cases c19 : x7_1.length < 5864062014805
         ·rw [if_pos c19] at H
          have LMc19 := Aside0.mk c19
          clear c19
          obtain ⟨y216, hy216⟩ : ∃ y_ : List (List (S46)), y_ = (x7_1 ++ [y212]) := ⟨_, rfl⟩
          replace H : (if t210 = (a0.size : Int) then (some (y216, 0, 0)) else (if 0 ≤ t210 then (if t210 < (a0.size : Int) then (if (bt a0 t210) = 44 then ((depotref22_behind.f kj7 a0 (wrap64 (t210 + 1))).bind fun t219 => (depotref22_lists.l0 kj7 a0 a1 y216 t219 ([] : List (S46)))) else (some (([] : List (List (S46))), 220, t210))) else (none)) else (none))) = some (r1, r2, r3) := by first | (rw [hy216]; with_reducible exact H) | (have H2_ := (Option.bind_some _ _).symm.trans H; rw [hy216]; with_reducible exact H2_) | (have H2_ := (Option.bind_some _ _).symm.trans H; with_reducible exact H2_) | with_reducible exact H | (rw [hy216]; exact H) | exact H
          have Ny216 := Aside0.mk hy216
          clear hy216
          by_cases c20 : t210 = (a0.size : Int)
          ·rw [if_pos c20] at H
           have c20b0 : (t210 == (a0.size : Int)) = true := beq_iff_eq.mpr c20
           have c20b1 : (t210 != (a0.size : Int)) = false := bne_eq_false_iff_eq.mpr c20
           clear c20
           simp only [Option.some.injEq, Prod.mk.injEq] at H
           obtain ⟨rfl, rfl, rfl⟩ := H
           obtain ⟨Ao22, co22, eo22⟩ := Kd.R_slice HO_9.out
           subst eo22
           go_wp2_with (first | ((with_reducible refine gate_builtin (b := .append) (xs := #[.tmp 52, .tmp 54]) rfl ?_); at_builtin; refine Kd.S_append (Kd.slice 46 k46) (w0 := w) w.heap.size rfl (.tmp 52) (.tmp 54) 22 23 (.slice none 0 0) 24 rfl Tryd.underlying22 info23 rfl (by decide) (by omega) u7 x7_1 y212 [.slice Ao22 y212.length co22] (fun k_ => k_ ≠ gb211) (fun k_ => some k_ = (.slice Ao22 y212.length co22 : Value).ownBlock) rfl rfl ?aP (fun k_ hk_ => ((Kd.R_mono (ok' := fun k_ => ((fun k_ => k_ ≠ gb211)) k_ ∧ some k_ ≠ (u7 : Value).ownBlock) (Ra (HO_9.out) (Kd.S_typed HO_7.out)) (fun k_ hk => ⟨hk.1, hk.2⟩))).1 k_ hk_.symm) ?aF ?aO ?aB ?aS ?aL ?_; (case aP => exact Kd.M_row (Kd.R_mono (Kd.R_tight rfl (Kd.R_mono (ok' := fun k_ => ((fun k_ => k_ ≠ gb211)) k_ ∧ some k_ ≠ (u7 : Value).ownBlock) (Ra (HO_9.out) (Kd.S_typed HO_7.out)) (fun k_ hk => ⟨hk.1, hk.2⟩))) (fun _ h_ => h_))); (case aB => exact (W1 HB.out GE211.out)); (case aF => exact (fun k_ hk => Kd.freshB (g := gb211) (Bq BK211.out) k_ hk)); (case aO => exact (by (with_reducible repeat (first | apply Kd.S_alloc | apply Kd.S_drewN | apply Kd.S_drew)); exact Kd.S_mono HO_7.out (fun k_ hk => ⟨hk.2, fun e_ => hk.1 e_⟩))); (case aS => exact (below_size (W1 HB.out GE211.out))); (case aL => have := LMc19.out; omega); intro v217 w21 ho hb hg hat; rw [← Ny216.out] at ho; have n0_ := Aside0.mk (blk_grown (g := gb211) (Bq BK211.out) hg (Kd.S_ne HO_7.out BK211.out (by decide))); have n1_ := Aside0.mk (hb); have n2_ := Aside0.mk (ho); clear BK211; clear HB; clear HO_7; clear HO_9; have BK211 := n0_; have HB := n1_; have HO218 := n2_; clear n0_ n1_ n2_; clear ho hb hg hat))
           go_ret3
           exact ⟨_, by first | rfl | (simp [errW_none, errW_some] <;> rfl) | (simp [*, errW_none, errW_some] <;> rfl) | (simp [errW_none, errW_some, Go.Proofs.YtmocooihkobdjaaDoor.listNe]; done), by (with_reducible repeat (first | apply Kd.S_alloc | apply Kd.S_drewN | apply Kd.S_drew)); exact Kd.S_mono HO218.out (fun _ hk => trivial), by repeat (first | (with_reducible first | exact HB.out | apply below_alloc | apply pw_below_drewN | apply below_drew1 | refine below_set ?_ GE211.out) | exact HB.out)⟩
          ·rw [if_neg c20] at H
           have c20b0 : (t210 == (a0.size : Int)) = false := beq_eq_false_iff_ne.mpr c20
           have c20b1 : (t210 != (a0.size : Int)) = true := bne_iff_ne.mpr c20
           by_cases c23 : 0 ≤ t210
           ·rw [if_pos c23] at H
            have c23b0 : decide (0 ≤ t210) = true := decide_eq_true c23
            clear c23
            by_cases c24 : t210 < (a0.size : Int)
            ·rw [if_pos c24] at H
             have c24b0 : decide (t210 < (a0.size : Int)) = true := decide_eq_true c24
             clear c24
             by_cases c26 : (bt a0 t210) = 44
             ·rw [if_pos c26] at H
              have c26b0 : ((bt a0 t210) == 44) = true := beq_iff_eq.mpr c26
              have c26b1 : ((bt a0 t210) != 44) = false := bne_eq_false_iff_eq.mpr c26
              clear c26
              replace H := Option.bind_eq_some_iff.mp H
              obtain ⟨t219, A270, H⟩ := H
              replace H : (depotref22_lists.l0 kj7 a0 a1 y216 t219 ([] : List (S46))) = some (r1, r2, r3) := H
              have A27 := Aside0.mk A270
              clear A270
              have H' := Aside0.mk H
              clear H
              obtain ⟨Ao29, co29, eo29⟩ := Kd.R_slice HO_9.out
              subst eo29
              go_wp2_with (first | ((with_reducible refine gate_builtin (b := .append) (xs := #[.tmp 52, .tmp 54]) rfl ?_); at_builtin; refine Kd.S_append (Kd.slice 46 k46) (w0 := w) w.heap.size rfl (.tmp 52) (.tmp 54) 22 23 (.slice none 0 0) 24 rfl Tryd.underlying22 info23 rfl (by decide) (by omega) u7 x7_1 y212 [.slice Ao29 y212.length co29] (fun k_ => k_ ≠ gb211) (fun k_ => some k_ = (.slice Ao29 y212.length co29 : Value).ownBlock) rfl rfl ?aP (fun k_ hk_ => ((Kd.R_mono (ok' := fun k_ => ((fun k_ => k_ ≠ gb211)) k_ ∧ some k_ ≠ (u7 : Value).ownBlock) (Ra (HO_9.out) (Kd.S_typed HO_7.out)) (fun k_ hk => ⟨hk.1, hk.2⟩))).1 k_ hk_.symm) ?aF ?aO ?aB ?aS ?aL ?_; (case aP => exact Kd.M_row (Kd.R_mono (Kd.R_tight rfl (Kd.R_mono (ok' := fun k_ => ((fun k_ => k_ ≠ gb211)) k_ ∧ some k_ ≠ (u7 : Value).ownBlock) (Ra (HO_9.out) (Kd.S_typed HO_7.out)) (fun k_ hk => ⟨hk.1, hk.2⟩))) (fun _ h_ => h_))); (case aB => exact (W1 HB.out GE211.out)); (case aF => exact (fun k_ hk => Kd.freshB (g := gb211) (Bq BK211.out) k_ hk)); (case aO => exact (by (with_reducible repeat (first | apply Kd.S_alloc | apply Kd.S_drewN | apply Kd.S_drew)); exact Kd.S_mono HO_7.out (fun k_ hk => ⟨hk.2, fun e_ => hk.1 e_⟩))); (case aS => exact (below_size (W1 HB.out GE211.out))); (case aL => have := LMc19.out; omega); intro v217 w28 ho hb hg hat; rw [← Ny216.out] at ho; have n0_ := Aside0.mk (blk_grown (g := gb211) (Bq BK211.out) hg (Kd.S_ne HO_7.out BK211.out (by decide))); have n1_ := Aside0.mk (hb); have n2_ := Aside0.mk (ho); clear BK211; clear HB; clear HO_7; clear HO_9; have BK211 := n0_; have HB := n1_; have HO218 := n2_; clear n0_ n1_ n2_; clear ho hb hg hat; have p25 : 0 ≤ (t210 : Int) := of_decide_eq_true (by first | (with_reducible assumption) | assumption); have q25 : t210 < (a0.size : Int) := of_decide_eq_true (by first | (with_reducible assumption) | assumption); have hx25 := bt_at a0 t210; replace p25 := eq_true p25; replace q25 := eq_true q25) | ((with_reducible refine gate_callee (f := 110) rfl ?_); refine goesL_ (some 69) rfl rfl Tryd.func110 (by kernel_rfl) rfl #[.string a0, .int .i64 (wrap64 (t210 + 1))] rfl (by (try simp only [List.map_toArray, List.map_cons, List.map_nil]); first | done | rfl | (simp only [List.length_drop, List.length_take]; rfl) | (simp; done)) ?_; (with_reducible refine (depotref22_behind.calls kj7 a0 (wrap64 (t210 + 1)) t219 _ A27.out).mono ?_); rintro e w' ⟨rfl, ⟨nd, rfl⟩⟩; refine ⟨_, rfl, ?_⟩))
              go_roundg kj7
              case measure => have := HK1.out; have := HJ7.out; omega
              case rel => exact ⟨(y216), (t219), (([] : List (S46))), (by first | rfl | (simp; done) | (simp [*]; done)), H', ⟨by have := HK1.out; have := HJ7.out; omega⟩, ⟨by (with_reducible repeat (first | apply Kd.S_alloc | apply Kd.S_drewN | apply Kd.S_drew)); exact Kd.S_mono HO218.out (fun _ hk => (by simp [Value.ownBlock]))⟩, ⟨by first | exact Kd.R_nil _ _ _ _ _ | exact Kd.N_nil _ _ _ _ _ | exact Kd.V_nil _ _ _ _ _ | exact Kd.Q_nil _ _ _ _ _ | exact Kd.S_nil _ _ _ _ _⟩, ⟨by repeat (first | (with_reducible first | exact HB.out | apply below_alloc | apply pw_below_drewN | apply below_drew1 | refine below_set ?_ GE211.out) | exact HB.out)⟩⟩
             ·rw [if_neg c26] at H
              have c26b0 : ((bt a0 t210) == 44) = false := beq_eq_false_iff_ne.mpr c26
              have c26b1 : ((bt a0 t210) != 44) = true := bne_iff_ne.mpr c26
              simp only [Option.some.injEq, Prod.mk.injEq] at H
              obtain ⟨rfl, rfl, rfl⟩ := H
              obtain ⟨Ao31, co31, eo31⟩ := Kd.R_slice HO_9.out
              subst eo31
              go_wp2_with (first | ((with_reducible refine gate_builtin (b := .append) (xs := #[.tmp 52, .tmp 54]) rfl ?_); at_builtin; refine Kd.S_append (Kd.slice 46 k46) (w0 := w) w.heap.size rfl (.tmp 52) (.tmp 54) 22 23 (.slice none 0 0) 24 rfl Tryd.underlying22 info23 rfl (by decide) (by omega) u7 x7_1 y212 [.slice Ao31 y212.length co31] (fun k_ => k_ ≠ gb211) (fun k_ => some k_ = (.slice Ao31 y212.length co31 : Value).ownBlock) rfl rfl ?aP (fun k_ hk_ => ((Kd.R_mono (ok' := fun k_ => ((fun k_ => k_ ≠ gb211)) k_ ∧ some k_ ≠ (u7 : Value).ownBlock) (Ra (HO_9.out) (Kd.S_typed HO_7.out)) (fun k_ hk => ⟨hk.1, hk.2⟩))).1 k_ hk_.symm) ?aF ?aO ?aB ?aS ?aL ?_; (case aP => exact Kd.M_row (Kd.R_mono (Kd.R_tight rfl (Kd.R_mono (ok' := fun k_ => ((fun k_ => k_ ≠ gb211)) k_ ∧ some k_ ≠ (u7 : Value).ownBlock) (Ra (HO_9.out) (Kd.S_typed HO_7.out)) (fun k_ hk => ⟨hk.1, hk.2⟩))) (fun _ h_ => h_))); (case aB => exact (W1 HB.out GE211.out)); (case aF => exact (fun k_ hk => Kd.freshB (g := gb211) (Bq BK211.out) k_ hk)); (case aO => exact (by (with_reducible repeat (first | apply Kd.S_alloc | apply Kd.S_drewN | apply Kd.S_drew)); exact Kd.S_mono HO_7.out (fun k_ hk => ⟨hk.2, fun e_ => hk.1 e_⟩))); (case aS => exact (below_size (W1 HB.out GE211.out))); (case aL => have := LMc19.out; omega); intro v217 w30 ho hb hg hat; rw [← Ny216.out] at ho; have n0_ := Aside0.mk (blk_grown (g := gb211) (Bq BK211.out) hg (Kd.S_ne HO_7.out BK211.out (by decide))); have n1_ := Aside0.mk (hb); have n2_ := Aside0.mk (ho); clear BK211; clear HB; clear HO_7; clear HO_9; have BK211 := n0_; have HB := n1_; have HO218 := n2_; clear n0_ n1_ n2_; clear ho hb hg hat; have p25 : 0 ≤ (t210 : Int) := of_decide_eq_true (by first | (with_reducible assumption) | assumption); have q25 : t210 < (a0.size : Int) := of_decide_eq_true (by first | (with_reducible assumption) | assumption); have hx25 := bt_at a0 t210; replace p25 := eq_true p25; replace q25 := eq_true q25))
              go_ret3
              exact ⟨_, by first | rfl | (simp [errW_none, errW_some] <;> rfl) | (simp [*, errW_none, errW_some] <;> rfl) | (simp [errW_none, errW_some, Go.Proofs.YtmocooihkobdjaaDoor.listNe]; done), by first | exact Kd.S_nil _ _ _ _ _ | exact Kd.N_nil _ _ _ _ _ | exact Kd.V_nil _ _ _ _ _ | exact Kd.Q_nil _ _ _ _ _ | exact Kd.R_nil _ _ _ _ _, by repeat (first | (with_reducible first | exact HB.out | apply below_alloc | apply pw_below_drewN | apply below_drew1 | refine below_set ?_ GE211.out) | exact HB.out)⟩
            ·rw [if_neg c24] at H
             exact absurd H (by simp)
           ·rw [if_neg c23] at H
            exact absurd H (by simp)
         ·rw [if_neg c19] at H
          exact absurd H (by simp)
     ·rw [if_neg c7] at H
      exact absurd H (by simp)
    ·rw [if_neg c6] at H
     have c6b0 : (t209 == 0) = false := beq_eq_false_iff_ne.mpr c6
     have c6b1 : (t209 != 0) = true := bne_iff_ne.mpr c6
     simp only [Option.some.injEq, Prod.mk.injEq] at H
     obtain ⟨rfl, rfl, rfl⟩ := H
     go_wp2_with (first | ((with_reducible refine gate_callee (f := 111) rfl ?_); refine goesL_ (some 22) rfl rfl Tryd.func111 (by kernel_rfl) rfl #[.string a0, .int .i64 x8_1] rfl (by (try simp only [List.map_toArray, List.map_cons, List.map_nil]); first | done | rfl | (simp only [List.length_drop, List.length_take]; rfl) | (simp; done)) ?_; (with_reducible refine (depotref22_one.calls k1 a0 x8_1 t206 t207 t208 t209 t210 _ A5.out).mono ?_); rintro e w32 ⟨rfl, hb⟩; refine ⟨_, rfl, ?_⟩; have n0_ := Aside0.mk (Kd.S_below (Sq HO_7.out) hb); have n1_ := Aside0.mk (Kd.R_below (Rq HO_9.out) hb); have n2_ := Aside0.mk (below_step (W0 HB.out) hb); clear HO_7; clear HO_9; clear HB; have HO_7 := n0_; have HO_9 := n1_; have HB := n2_; clear n0_ n1_ n2_; (try clear hb); (try clear hb2); (try clear hk); (try clear hi)) | ((with_reducible refine gate_dst (N := 10) rfl ?_); refine box_event ?hg (N := 10) ?hd (cs := #[.string (⟨#[]⟩ : ByteArray), .int .i64 0, .string (⟨#[]⟩ : ByteArray)]) (t := 46) ?hr ?_; (case hd => rfl); (case hg => rfl); (case hr => first | (go_simp; done) | (go_simp; rfl)); intro gb211 hg w33 hbox hb; have n0_ := Aside0.mk (Kd.S_below (Kd.S_elderB (Sq HO_7.out) gb211 (Nat.le_of_eq hg.symm)) hb); have n1_ := Aside0.mk (Kd.R_below (Kd.R_elderB (Rq HO_9.out) gb211 (Nat.le_of_eq hg.symm)) hb); have n2_ := Aside0.mk (below_step (W0 HB.out) hb); have n3_ := Aside0.mk (hbox); have n4_ := Aside0.mk ((by rw [hg]; exact (below_size (W0 HB.out)) : w.heap.size ≤ gb211)); have n5_ := Aside0.mk ((by rw [hg]; exact (below_size (W0 HB.out)) : w.heap.size ≤ gb211)); clear HO_7; clear HO_9; clear HB; have HO_7 := n0_; have HO_9 := n1_; have HB := n2_; have BK211 := n3_; have GW211 := n4_; have GE211 := n5_; clear n0_ n1_ n2_ n3_ n4_ n5_; clear hb hbox hg; have hcz34_0 : w33.cell? ⟨gb211, 0, none⟩ = some (.string (⟨#[]⟩ : ByteArray)) := (blk_cell BK211.out 0).trans rfl; have hcz34_1 : w33.cell? ⟨gb211, 1, none⟩ = some (.int .i64 0) := (blk_cell BK211.out 1).trans rfl; have hcz34_2 : w33.cell? ⟨gb211, 2, none⟩ = some (.string (⟨#[]⟩ : ByteArray)) := (blk_cell BK211.out 2).trans rfl; have hfz34_0 := blk_frozen BK211.out 0; have hfz34_1 := blk_frozen BK211.out 1; have hfz34_2 := blk_frozen BK211.out 2))
     go_ret3
     exact ⟨_, by first | rfl | (simp [errW_none, errW_some] <;> rfl) | (simp [*, errW_none, errW_some] <;> rfl) | (simp [errW_none, errW_some, Go.Proofs.YtmocooihkobdjaaDoor.listNe]; done), by first | exact Kd.S_nil _ _ _ _ _ | exact Kd.N_nil _ _ _ _ _ | exact Kd.V_nil _ _ _ _ _ | exact Kd.Q_nil _ _ _ _ _ | exact Kd.R_nil _ _ _ _ _, by repeat (first | (with_reducible first | exact HB.out | apply below_alloc | apply pw_below_drewN | apply below_drew1 | refine below_set ?_ GE211.out) | exact HB.out)⟩
end Go.Proofs.YtmocooihkobdjaaDoor.Q
end
section
namespace Go.Proofs.YtmocooihkobdjaaDoor.Q
open Go.RowKit Go.Proofs.YtmocooihkobdjaaDoorW.PrintWords Go.Proofs.YtmocooihkobdjaaDoorW.PrintLast Go.Proofs.YtmocooihkobdjaaDoorW.PrintMore
attribute [local go_sem] max2_int min2_int max_two min_two max_three min_three max_four min_four
set_option linter.unusedVariables false
set_option linter.unusedSimpArgs false
def depotref22_Read.f (k : Nat) (a0 : ByteArray) : Option ((List (List (S46))) × Int × Int) := (depotref22_lists.f k a0 true).bind fun bt220 => (some (bt220.1, bt220.2.1, bt220.2.2))
theorem depotref22_Read.mono : ∀ a0 k, LeO (depotref22_Read.f k a0) (depotref22_Read.f (k + 1) a0) := by
 intro a0 k
 unfold depotref22_Read.f
 repeat' first
   | (with_reducible exact depotref22_lists.mono _ _ _)
   | (with_reducible exact LeO.refl _)
   | (with_reducible exact LeO.none _)
   | (with_reducible refine LeO.ite ?_ ?_)
   | (with_reducible refine LeO.bind ?_ (fun _ => ?_))
   | exact depotref22_lists.mono _ _ _
   | exact LeO.none _
   | refine LeO.ite ?_ ?_
   | refine LeO.bind ?_ (fun _ => ?_)
set_option maxHeartbeats 8000000 in
set_option maxRecDepth 100000 in
theorem depotref22_Read.calls (k : Nat) (a0 : ByteArray) (r1 : List (List (S46))) (r2 : Int) (r3 : Int) (w : World) (h : depotref22_Read.f k a0 = some (r1, r2, r3)) :
  Calls Tryd.prog 70 #[.string a0] w fun e w' => ∃ v0_ : Value, e = .returned (.tuple #[v0_, .int .i64 r2, .int .i64 r3]) ∧ Kd.S (Kd.slice 46 k46) 23 w' w.heap.size (fun _ => True) v0_ r1 ∧ Below w.heap.size w w' := by
 have HB := Aside0.mk (Below.refl w.heap.size w)
 have H : ((depotref22_lists.f k a0 true).bind fun bt220 => (some (bt220.1, bt220.2.1, bt220.2.2))) = some (r1, r2, r3) := h
 clear h
 replace H := Option.bind_eq_some_iff.mp H
 obtain ⟨⟨t220, t221, t222⟩, A20, H⟩ := H
 replace H : (some (t220, t221, t222)) = some (r1, r2, r3) := H
 have A2 := Aside0.mk A20
 clear A20
 simp only [Option.some.injEq, Prod.mk.injEq] at H
 obtain ⟨rfl, rfl, rfl⟩ := H
 go_enter Tryd.func70, Tryd.ntmps70
 go_wp2_with (first | ((with_reducible refine gate_callee (f := 90) rfl ?_); refine goesL_ (some 6) rfl rfl Tryd.func90 (by kernel_rfl) rfl #[.string a0, .bool true] rfl (by (try simp only [List.map_toArray, List.map_cons, List.map_nil]); first | done | rfl | (simp only [List.length_drop, List.length_take]; rfl) | (simp; done)) ?_; (with_reducible refine (depotref22_lists.calls k a0 true t220 t221 t222 _ A2.out).mono ?_); rintro e w3 ⟨v223, rfl, ho0, hb⟩; refine ⟨_, rfl, ?_⟩; have n0_ := Aside0.mk (Kd.S_lower ho0 (below_size (W0 HB.out))); have n1_ := Aside0.mk (below_step (W0 HB.out) hb); clear HB; have HO224 := n0_; have HB := n1_; clear n0_ n1_; (try clear hb); (try clear hb2); (try clear hk); (try clear hi); (try clear ho0)))
 go_ret3
 exact ⟨_, by first | rfl | (simp [errW_none, errW_some] <;> rfl) | (simp [*, errW_none, errW_some] <;> rfl) | (simp [errW_none, errW_some, Go.Proofs.YtmocooihkobdjaaDoor.listNe]; done), by (with_reducible repeat (first | apply Kd.S_alloc | apply Kd.S_drewN | apply Kd.S_drew)); exact HO224.out, by repeat (first | (with_reducible first | exact HB.out | apply below_alloc | apply pw_below_drewN | apply below_drew1) | exact HB.out)⟩
end Go.Proofs.YtmocooihkobdjaaDoor.Q
end
section
namespace Go.Proofs.YtmocooihkobdjaaDoor.Q
open Go.RowKit Go.Proofs.YtmocooihkobdjaaDoorW.PrintWords Go.Proofs.YtmocooihkobdjaaDoorW.PrintLast Go.Proofs.YtmocooihkobdjaaDoorW.PrintMore
attribute [local go_sem] max2_int min2_int max_two min_two max_three min_three max_four min_four
set_option linter.unusedVariables false
set_option linter.unusedSimpArgs false
def depotref22_ReadList.l0 : Nat → List (List (S46)) → Int → Int → List (S46) → Int → Option ((List (S46)) × Int × Int)
 | 0, _, _, _, _, _ => none
 | k + 1, x5, x6, x7, x8, x9 => if x9 < (x5.length : Int) then (if 0 ≤ x9 then (if 0 < ((rd_L3 x5 x9).length : Int) then (if x8.length < 3518437208883 then (depotref22_ReadList.l0 k x5 x6 x7 (x8 ++ [(⟨(rd_T46 (rd_L3 x5 x9) 0).f0, (rd_T46 (rd_L3 x5 x9) 0).f1, (rd_T46 (rd_L3 x5 x9) 0).f2⟩ : S46)]) (wrap64 (x9 + 1))) else (none)) else (none)) else (none)) else (some (x8, x6, x7))
def depotref22_ReadList.f (k : Nat) (a0 : ByteArray) : Option ((List (S46)) × Int × Int) := (depotref22_lists.f k a0 false).bind fun bt225 => (depotref22_ReadList.l0 k bt225.1 bt225.2.1 bt225.2.2 ([] : List (S46)) 0)
theorem depotref22_ReadList.mono_l : ∀ k, (∀ y0 y1 y2 y3 y4, LeO (depotref22_ReadList.l0 k y0 y1 y2 y3 y4) (depotref22_ReadList.l0 (k + 1) y0 y1 y2 y3 y4))
 | 0 => fun _ _ _ _ _ r h => by simp [depotref22_ReadList.l0] at h
 | k + 1 => by
  have ih0 := depotref22_ReadList.mono_l k
  ·intro y0 y1 y2 y3 y4
   unfold depotref22_ReadList.l0
   repeat' first
   | (with_reducible exact ih0 _ _ _ _ _)
   | (with_reducible exact depotref22_lists.mono _ _ _)
   | (with_reducible exact LeO.refl _)
   | (with_reducible exact LeO.none _)
   | (with_reducible refine LeO.ite ?_ ?_)
   | (with_reducible refine LeO.bind ?_ (fun _ => ?_))
   | exact ih0 _ _ _ _ _
   | exact depotref22_lists.mono _ _ _
   | exact LeO.none _
   | refine LeO.ite ?_ ?_
   | refine LeO.bind ?_ (fun _ => ?_)
theorem depotref22_ReadList.mono : ∀ a0 k, LeO (depotref22_ReadList.f k a0) (depotref22_ReadList.f (k + 1) a0) := by
 intro a0 k
 have ih0 := depotref22_ReadList.mono_l k
 unfold depotref22_ReadList.f
 repeat' first
   | (with_reducible exact ih0 _ _ _ _ _)
   | (with_reducible exact depotref22_lists.mono _ _ _)
   | (with_reducible exact LeO.refl _)
   | (with_reducible exact LeO.none _)
   | (with_reducible refine LeO.ite ?_ ?_)
   | (with_reducible refine LeO.bind ?_ (fun _ => ?_))
   | exact ih0 _ _ _ _ _
   | exact depotref22_lists.mono _ _ _
   | exact LeO.none _
   | refine LeO.ite ?_ ?_
   | refine LeO.bind ?_ (fun _ => ?_)
set_option maxHeartbeats 8000000 in
set_option maxRecDepth 100000 in
theorem depotref22_ReadList.calls (k : Nat) (a0 : ByteArray) (r1 : List (S46)) (r2 : Int) (r3 : Int) (w : World) (h : depotref22_ReadList.f k a0 = some (r1, r2, r3)) :
  Calls Tryd.prog 71 #[.string a0] w fun e w' => ∃ v0_ : Value, e = .returned (.tuple #[v0_, .int .i64 r2, .int .i64 r3]) ∧ Kd.R k46 46 w' w.heap.size (fun _ => True) v0_ r1 ∧ Below w.heap.size w w' := by
 have hu46 := Tryd.underlying46
 have HB := Aside0.mk (Below.refl w.heap.size w)
 have H : ((depotref22_lists.f k a0 false).bind fun bt225 => (depotref22_ReadList.l0 k bt225.1 bt225.2.1 bt225.2.2 ([] : List (S46)) 0)) = some (r1, r2, r3) := h
 clear h
 replace H := Option.bind_eq_some_iff.mp H
 obtain ⟨⟨t225, t226, t227⟩, A20, H⟩ := H
 replace H : (depotref22_ReadList.l0 k t225 t226 t227 ([] : List (S46)) 0) = some (r1, r2, r3) := H
 have A2 := Aside0.mk A20
 clear A20
 have H' := Aside0.mk H
 clear H
 go_enter Tryd.func71, Tryd.ntmps71
 go_wp2_with (first | ((with_reducible refine gate_callee (f := 90) rfl ?_); refine goesL_ (some 12) rfl rfl Tryd.func90 (by kernel_rfl) rfl #[.string a0, .bool false] rfl (by (try simp only [List.map_toArray, List.map_cons, List.map_nil]); first | done | rfl | (simp only [List.length_drop, List.length_take]; rfl) | (simp; done)) ?_; (with_reducible refine (depotref22_lists.calls k a0 false t225 t226 t227 _ A2.out).mono ?_); rintro e w3 ⟨v228, rfl, ho0, hb⟩; refine ⟨_, rfl, ?_⟩; have n0_ := Aside0.mk (Kd.S_lower ho0 (below_size (W0 HB.out))); have n1_ := Aside0.mk (below_step (W0 HB.out) hb); clear HB; have HO229 := n0_; have HB := n1_; clear n0_ n1_; (try clear hb); (try clear hb2); (try clear hk); (try clear hi); (try clear ho0)))
 go_loopg [8, 9] k (fun kq v8 v9 w' => ∃ (x8_1 : List (S46)) (x9_1 : Int), v9 = .int .i64 x9_1 ∧ Aside0 (depotref22_ReadList.l0 kq t225 t226 t227 x8_1 x9_1 = some (r1, r2, r3)) ∧ Aside0 (kq ≤ k) ∧ Aside0 (Kd.S (Kd.slice 46 k46) 23 w' w.heap.size (fun k_ => some k_ ≠ (v8 : Value).ownBlock) v228 t225) ∧ Aside0 (Kd.R k46 46 w' w.heap.size (fun _ => True) v8 x8_1) ∧ Aside0 (Below w.heap.size w w'))
 case atStart => exact ⟨(([] : List (S46))), (0), (by first | rfl | (simp; done) | (simp [*]; done)), H', ⟨Nat.le_refl _⟩, ⟨by (with_reducible repeat (first | apply Kd.S_alloc | apply Kd.S_drewN | apply Kd.S_drew)); exact Kd.S_mono HO229.out (fun _ hk => (by simp [Value.ownBlock]))⟩, ⟨by first | exact Kd.R_nil _ _ _ _ _ | exact Kd.N_nil _ _ _ _ _ | exact Kd.V_nil _ _ _ _ _ | exact Kd.Q_nil _ _ _ _ _ | exact Kd.S_nil _ _ _ _ _⟩, ⟨by repeat (first | (with_reducible first | exact HB.out | apply below_alloc | apply pw_below_drewN | apply below_drew1) | exact HB.out)⟩⟩
 case round =>
  clear H'
  try clear p2
  obtain ⟨x8_1, x9_1, rfl, HA, HK1, HO_5, HO_8, HB⟩ := hrel
  cases gk with
  | zero => exact absurd HA.out (by simp [depotref22_ReadList.l0])
  | succ k1 =>
   have H := HA.out
   clear HA
   simp only [depotref22_ReadList.l0] at H
   by_cases c4 : x9_1 < (t225.length : Int)
   ·rw [if_pos c4] at H
    have c4b0 : decide (x9_1 < (t225.length : Int)) = true := decide_eq_true c4
    clear c4
    by_cases c5 : 0 ≤ x9_1
    ·rw [if_pos c5] at H
     have c5b0 : decide (0 ≤ x9_1) = true := decide_eq_true c5
     clear c5
     by_cases c6 : 0 < ((rd_L3 t225 x9_1).length : Int)
     ·rw [if_pos c6] at H
      have c6b0 : decide (0 < ((rd_L3 t225 x9_1).length : Int)) = true := decide_eq_true c6
      have c6b1 : decide (0 < (rd_L3 t225 x9_1).length) = true := decide_eq_true (by omega)
      clear c6
      by_cases c7 : x8_1.length < 3518437208883
      ·rw [if_pos c7] at H
       have LMc7 := Aside0.mk c7
       clear c7
       obtain ⟨y232, hy232⟩ : ∃ y_ : List (S46), y_ = (x8_1 ++ [(⟨(rd_T46 (rd_L3 t225 x9_1) 0).f0, (rd_T46 (rd_L3 t225 x9_1) 0).f1, (rd_T46 (rd_L3 t225 x9_1) 0).f2⟩ : S46)]) := ⟨_, rfl⟩
       replace H : (depotref22_ReadList.l0 k1 t225 t226 t227 y232 (wrap64 (x9_1 + 1))) = some (r1, r2, r3) := by first | (rw [hy232]; with_reducible exact H) | (have H2_ := (Option.bind_some _ _).symm.trans H; rw [hy232]; with_reducible exact H2_) | (have H2_ := (Option.bind_some _ _).symm.trans H; with_reducible exact H2_) | with_reducible exact H | (rw [hy232]; exact H) | exact H
       have Ny232 := Aside0.mk hy232
       clear hy232
       have H' := Aside0.mk H
       clear H
       obtain ⟨Ao8, co8, eo8⟩ := Kd.S_slice HO_5.out
       subst eo8
       have p230 : 0 ≤ (x9_1 : Int) := of_decide_eq_true (by first | (with_reducible assumption) | assumption)
       have q230 : x9_1 < (t225.length : Int) := of_decide_eq_true (by first | (with_reducible assumption) | assumption)
       obtain ⟨ad230, A230_0, c230_0, e230, hx230_0, hl230_0, hi230_0⟩ := at_L3 (Kd.S_reads' HO_5.out).2.2 x9_1 p230 q230
       cases e230
       obtain ⟨ce230, hce230, hMe230, hcc230⟩ := Kd.S_get HO_5.out [] x9_1 p230 (by first | exact q230 | exact of_decide_eq_true (by first | (with_reducible assumption) | assumption) | (have e_ := (Kd.S_reads' HO_5.out).1; omega))
       obtain ⟨ve230_0, rfl, ge230_0⟩ := hMe230
       have hv230_0 := hcc230 0 _ rfl
       rw [Nat.add_zero, show ((Kd.slice 46 k46)).sz = 1 from rfl, Nat.mul_one] at hv230_0
       replace hv230_0 := Option.some.inj (hv230_0.symm.trans hx230_0)
       rw [hv230_0] at ge230_0
       have HL230_0 := Aside0.mk (show Kd.R k46 46 _ _ _ _ (rd_L3 t225 x9_1) from ge230_0)
       clear hv230_0 ge230_0
       clear hcc230 hce230
       have HR230_0 := Aside0.mk hi230_0
       have HC230_0 := Aside0.mk hl230_0
       clear hi230_0 hl230_0
       replace p230 := eq_true p230
       replace q230 := eq_true q230
       have p231 : 0 ≤ (0 : Int) := (by omega)
       have q231 : 0 < ((rd_L3 t225 x9_1).length : Int) := of_decide_eq_true (by first | (with_reducible assumption) | assumption)
       obtain ⟨ad231, e231, hx231_0, hx231_1, hx231_2⟩ := at_T46 (by repeat (first | (with_reducible exact HR230_0.out) | (with_reducible refine Kd.C_alloc ?_ _) | (with_reducible refine Kd.C_drewN ?_ _) | (with_reducible refine Kd.C_drew ?_) | exact HR230_0.out)) 0 p231 q231
       cases e231
       have qi231 : (0 < (rd_L3 t225 x9_1).length) = True := eq_true (by omega)
       (try rw [show ((0 : Int)).toNat = 0 from rfl] at hx231_0)
       (try rw [show 0 * 3 = 0 from rfl] at hx231_0)
       (try rw [Addr.add_zero'] at hx231_0)
       (try rw [show ((0 : Int)).toNat = 0 from rfl] at hx231_1)
       (try rw [show 0 * 3 = 0 from rfl] at hx231_1)
       (try rw [Addr.add_zero'] at hx231_1)
       (try rw [show ((0 : Int)).toNat = 0 from rfl] at hx231_2)
       (try rw [show 0 * 3 = 0 from rfl] at hx231_2)
       (try rw [Addr.add_zero'] at hx231_2)
       replace p231 := eq_true p231
       replace q231 := eq_true q231
       go_wp2_with (first | ((with_reducible refine gate_builtin (b := .append) (xs := #[.tmp 22, .tmp 29]) rfl ?_); at_builtin; refine Kd.R_append k46 (w0 := w) w.heap.size rfl (.tmp 22) (.tmp 29) 23 46 (.agg #[(.string ⟨#[]⟩), (.int .i64 0), (.string ⟨#[]⟩)]) 40 rfl Tryd.underlying23 info46 rfl (by decide) (by omega) u8 x8_1 (⟨(rd_T46 (rd_L3 t225 x9_1) 0).f0, (rd_T46 (rd_L3 t225 x9_1) 0).f1, (rd_T46 (rd_L3 t225 x9_1) 0).f2⟩ : S46) [.string ((rd_T46 (rd_L3 t225 x9_1) 0).f0), .int .i64 ((rd_T46 (rd_L3 t225 x9_1) 0).f1), .string ((rd_T46 (rd_L3 t225 x9_1) 0).f2)] (fun _ => True) (fun _ => False) rfl rfl ?aP (fun _ hk => hk.elim) ?aF ?aO ?aB ?aS ?aL ?_; (case aP => exact k46_mkM _ _ _ (⟨(rd_T46 (rd_L3 t225 x9_1) 0).f0, (rd_T46 (rd_L3 t225 x9_1) 0).f1, (rd_T46 (rd_L3 t225 x9_1) 0).f2⟩ : S46)); (case aB => exact (W0 HB.out)); (case aF => exact (fun _ _ => trivial)); (case aO => exact (Rq HO_8.out)); (case aS => exact (below_size (W0 HB.out))); (case aL => have := LMc7.out; omega); intro v233 w9 ho hb hg hat; rw [← Ny232.out] at ho; have n0_ := Aside0.mk (Kd.S_after (ok := (fun _ => True)) (by (with_reducible repeat (first | apply Kd.S_alloc | apply Kd.S_drewN | apply Kd.S_drew)); exact Kd.S_mono HO_5.out (fun _ hk => ⟨trivial, hk⟩)) hg hat); have n1_ := Aside0.mk (Kd.R_after (ok := (fun k_ => some k_ ≠ (.slice (some ad230) t225.length co8 : Value).ownBlock)) (by (with_reducible repeat (first | apply Kd.R_alloc | apply Kd.R_drewN | apply Kd.R_drew)); exact Kd.R_mono HL230_0.out (fun _ hk => ⟨hk.2, hk.1⟩)) hg hat); have n2_ := Aside0.mk (hb); have n3_ := Aside0.mk (ho); clear HO_5; clear HL230_0; clear HB; clear HO_8; have HO_5 := n0_; have HL230_0 := n1_; have HB := n2_; have HO234 := n3_; clear n0_ n1_ n2_ n3_; clear ho hb hg hat))
       go_roundg k1
       case measure => have := HK1.out; omega
       case rel => exact ⟨(y232), (wrap64 (x9_1 + 1)), (by first | rfl | (simp; done) | (simp [*]; done)), H', ⟨by have := HK1.out; omega⟩, ⟨by (with_reducible repeat (first | apply Kd.S_alloc | apply Kd.S_drewN | apply Kd.S_drew)); exact Kd.S_mono HO_5.out (fun _ hk => hk.2)⟩, ⟨by (with_reducible repeat (first | apply Kd.R_alloc | apply Kd.R_drewN | apply Kd.R_drew)); exact HO234.out⟩, ⟨by repeat (first | (with_reducible first | exact HB.out | apply below_alloc | apply pw_below_drewN | apply below_drew1) | exact HB.out)⟩⟩
      ·rw [if_neg c7] at H
       exact absurd H (by simp)
     ·rw [if_neg c6] at H
      exact absurd H (by simp)
    ·rw [if_neg c5] at H
     exact absurd H (by simp)
   ·rw [if_neg c4] at H
    have c4b0 : decide (x9_1 < (t225.length : Int)) = false := decide_eq_false c4
    clear c4
    simp only [Option.some.injEq, Prod.mk.injEq] at H
    obtain ⟨rfl, rfl, rfl⟩ := H
    obtain ⟨Ao10, co10, eo10⟩ := Kd.S_slice HO_5.out
    subst eo10
    go_wp2
    go_ret3
    exact ⟨_, by first | rfl | (simp [errW_none, errW_some] <;> rfl) | (simp [*, errW_none, errW_some] <;> rfl) | (simp [errW_none, errW_some, Go.Proofs.YtmocooihkobdjaaDoor.listNe]; done), by (with_reducible repeat (first | apply Kd.R_alloc | apply Kd.R_drewN | apply Kd.R_drew)); exact HO_8.out, by repeat (first | (with_reducible first | exact HB.out | apply below_alloc | apply pw_below_drewN | apply below_drew1) | exact HB.out)⟩
end Go.Proofs.YtmocooihkobdjaaDoor.Q
end
