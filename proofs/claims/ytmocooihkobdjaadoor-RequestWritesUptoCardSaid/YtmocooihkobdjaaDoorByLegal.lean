/-
  Plain Lean: the reference's Legal (depotref20) is the program's.
-/
import Derived.Test.YtmocooihkobdjaaDoorByVerRef
import Derived.Test.YtmocooihkobdjaaDoorByOk
import Derived.KernelRfl
set_option linter.unusedVariables false
set_option linter.unusedSimpArgs false
namespace Go.Proofs.YtmocooihkobdjaaDoor.Ver
open Go.RowKit Go.Proofs.YtmocooihkobdjaaDoor.B Go.Proofs.YtmocooihkobdjaaDoorW.PrintWords Go.Proofs.YtmocooihkobdjaaDoorW.PrintLast
theorem letter_f (c : Int) : depotref20_letter.f c = some (ltr c) := ltr_f c
theorem digit_f (c : Int) : depotref20_digit.f c = some (dgt c) := dgt_f c

theorem ref_l2 (e u r : ByteArray) (b1 b2 : Bool) (hs : r.size ≤ 140737488351232) : ∀ d i, i + d = r.size → Ev (fun k => depotref20_Legal.l2 k (i : Int) e u r b1 b2) (allFrom refRev r d i) := by
  intro d
  induction d with
  | zero =>
    intro i hi
    refine Ev.step (f := fun _ => some true) (fun k => ?_) (Ev.now _)
    simp only [depotref20_Legal.l2]
    rw [if_neg (by omega)]
  | succ d ih =>
    intro i hi
    have ew : wrap64 ((i : Int) + 1) = ((i + 1 : Nat) : Int) := by rw [wrap_id (by omega) (by omega)]; omega
    have hstep : ∀ k, depotref20_Legal.l2 (k + 1) (i : Int) e u r b1 b2 = if refRev (bt r i) = true then depotref20_Legal.l2 k ((i + 1 : Nat) : Int) e u r b1 b2 else some false := by
      intro k
      simp only [depotref20_Legal.l2]
      rw [if_pos (by omega), if_pos (by omega), letter_f, Option.bind_some, digit_f, Option.bind_some, ew]
      unfold refRev
      cases ltr (bt r i) <;> cases dgt (bt r i) <;> simp
      repeat' split
      all_goals simp_all
    refine Ev.step (f := fun k => if refRev (bt r i) = true then depotref20_Legal.l2 k ((i + 1 : Nat) : Int) e u r b1 b2 else some false) hstep ?_
    rw [allFrom]
    by_cases h : refRev (bt r i) = true
    · simp only [h, Bool.true_and]
      exact ih (i + 1) (by omega)
    · simp only [if_neg h]
      rw [Bool.not_eq_true] at h
      rw [h]
      exact Ev.now _
theorem ref_l1 (e u r : ByteArray) (b1 b2 : Bool) (hr : r.size ≤ 140737488351232) (hs : u.size ≤ 140737488351232) : ∀ d i, i + d = u.size → Ev (fun k => depotref20_Legal.l1 k (i : Int) e u r b1 b2) (allFrom (refUp b1) u d i && allFrom refRev r r.size 0) := by
  intro d
  induction d with
  | zero =>
    intro i hi
    refine Ev.step (f := fun k => depotref20_Legal.l2 k ((0 : Nat) : Int) e u r b1 b2) (fun k => ?_) (ref_l2 e u r b1 b2 hr r.size 0 (by omega))
    simp only [depotref20_Legal.l1]
    rw [if_neg (by omega)]
    rfl
  | succ d ih =>
    intro i hi
    have ew : wrap64 ((i : Int) + 1) = ((i + 1 : Nat) : Int) := by rw [wrap_id (by omega) (by omega)]; omega
    have hstep : ∀ k, depotref20_Legal.l1 (k + 1) (i : Int) e u r b1 b2 = if refUp b1 (bt u i) = true then depotref20_Legal.l1 k ((i + 1 : Nat) : Int) e u r b1 b2 else some false := by
      intro k
      simp only [depotref20_Legal.l1]
      rw [if_pos (by omega), if_pos (by omega), letter_f, Option.bind_some, digit_f, Option.bind_some, ew]
      unfold refUp
      cases ltr (bt u i) <;> cases dgt (bt u i) <;> cases b1 <;> simp
      repeat' split
      all_goals simp_all
    refine Ev.step (f := fun k => if refUp b1 (bt u i) = true then depotref20_Legal.l1 k ((i + 1 : Nat) : Int) e u r b1 b2 else some false) hstep ?_
    rw [allFrom]
    by_cases h : refUp b1 (bt u i) = true
    · simp only [h, Bool.true_and]
      exact ih (i + 1) (by omega)
    · simp only [if_neg h]
      rw [Bool.not_eq_true] at h
      rw [h]
      exact Ev.now _
theorem ref_l0 (e u r : ByteArray) (b1 b2 : Bool) (hr : r.size ≤ 140737488351232) (hs : u.size ≤ 140737488351232) (he : e.size ≤ 140737488351232) : ∀ d i, i + d = e.size → Ev (fun k => depotref20_Legal.l0 k (i : Int) e u r b1 b2) (allFrom dgt e d i && (allFrom (refUp b1) u u.size 0 && allFrom refRev r r.size 0)) := by
  intro d
  induction d with
  | zero =>
    intro i hi
    refine Ev.step (f := fun k => depotref20_Legal.l1 k ((0 : Nat) : Int) e u r b1 b2) (fun k => ?_) (ref_l1 e u r b1 b2 hr hs u.size 0 (by omega))
    simp only [depotref20_Legal.l0]
    rw [if_neg (by omega)]
    rfl
  | succ d ih =>
    intro i hi
    have ew : wrap64 ((i : Int) + 1) = ((i + 1 : Nat) : Int) := by rw [wrap_id (by omega) (by omega)]; omega
    have hstep : ∀ k, depotref20_Legal.l0 (k + 1) (i : Int) e u r b1 b2 = if dgt (bt e i) = true then depotref20_Legal.l0 k ((i + 1 : Nat) : Int) e u r b1 b2 else some false := by
      intro k
      simp only [depotref20_Legal.l0]
      rw [if_pos (by omega), if_pos (by omega), digit_f, Option.bind_some, ew]
    refine Ev.step (f := fun k => if dgt (bt e i) = true then depotref20_Legal.l0 k ((i + 1 : Nat) : Int) e u r b1 b2 else some false) hstep ?_
    rw [allFrom]
    by_cases h : dgt (bt e i) = true
    · simp only [h, Bool.true_and]
      exact ih (i + 1) (by omega)
    · simp only [if_neg h]
      rw [Bool.not_eq_true] at h
      rw [h]
      exact Ev.now _
theorem ref_j0 (e u r : ByteArray) (b1 b2 x : Bool) (hr : r.size ≤ 140737488351232) (hs : u.size ≤ 140737488351232) (he : e.size ≤ 140737488351232) : Ev (fun k => depotref20_Legal.j0 k x e u r b1 b2) (!x && (allFrom dgt e e.size 0 && (allFrom (refUp b1) u u.size 0 && allFrom refRev r r.size 0))) := by
  refine Ev.step (f := fun k => if x = true then some false else depotref20_Legal.l0 k ((0 : Nat) : Int) e u r b1 b2) (fun k => by simp only [depotref20_Legal.j0]; rfl) ?_
  cases x
  · simpa using ref_l0 e u r b1 b2 hr hs he e.size 0 (by omega)
  · exact Ev.now _

theorem legal_ev (s : ByteArray) (hs : s.size ≤ 140737488351232) : Ev (fun k => depotref20_Legal.f k s) (okS s) := by
  have hb := behind_le s
  have h1 := sub_le (behindS s) (minusI s)
  have h2 := (sub_le s (colonI s)).2.2
  have hu : (upS s).size ≤ 140737488351232 := by unfold upS; omega
  have hr : (revS s).size ≤ 140737488351232 := by unfold revS; omega
  have he : (epochS s).size ≤ 140737488351232 := by unfold epochS; omega
  have hj := fun x => ref_j0 (epochS s) (upS s) (revS s) (colonS s) (minusS s) x hr hu he
  rw [okS_eq]
  unfold depotref20_Legal.f
  refine Ev.bind (refparted_ev s hs) ?_
  simp only
  unfold ok1
  have n1 : ¬ (epochS s).toList = [] → (epochS s).toList.isEmpty = false := fun h => by simpa using h
  have n2 : ¬ (upS s).toList = [] → (upS s).toList.isEmpty = false := fun h => by simpa using h
  have n3 : ¬ (revS s).toList = [] → (revS s).toList.isEmpty = false := fun h => by simpa using h
  have hp : ¬ (upS s).toList = [] → (0 : Int) < ((upS s).size : Int) := fun h => by
    have := mt (empty_of (upS s)).2 h
    omega
  generalize (allFrom dgt (epochS s) (epochS s).size 0 && (allFrom (refUp (colonS s)) (upS s) (upS s).size 0 && allFrom refRev (revS s) (revS s).size 0)) = A at hj ⊢
  by_cases e1 : (epochS s).toList = []
  all_goals by_cases e2 : (upS s).toList = []
  all_goals by_cases e3 : (revS s).toList = []
  all_goals cases hc : colonS s
  all_goals cases hm : minusS s
  all_goals rw [hc, hm] at hj
  all_goals first | (have f1 := n1 e1) | (have f1 : (epochS s).toList.isEmpty = true := congrArg List.isEmpty e1)
  all_goals first | (have f2 := n2 e2) | (have f2 : (upS s).toList.isEmpty = true := congrArg List.isEmpty e2)
  all_goals first | (have f3 := n3 e3) | (have f3 : (revS s).toList.isEmpty = true := congrArg List.isEmpty e3)
  all_goals simp only [e1, e2, e3, f1, f2, f3, if_true, if_false, Bool.false_eq_true, Bool.not_false, Bool.not_true, Bool.true_or, Bool.false_or, Bool.true_and, Bool.false_and]
  all_goals first
    | exact hj true
    | (simp only [if_pos (hp e2), digit_f, Option.bind_some]
       have z := hj (!dgt (bt (upS s) 0))
       rw [Bool.not_not] at z
       exact z)
end Go.Proofs.YtmocooihkobdjaaDoor.Ver
