/-
  Plain Lean: the reference's Legal (depotref20) is the program's.
-/
import Derived.Test.YtphabealejpfnaaDoorVer
import Derived.KernelRfl
set_option linter.unusedVariables false
set_option linter.unusedSimpArgs false
namespace Go.Proofs.YtphabealejpfnaaDoor.Ver
open Go.RowKit Go.Proofs.YtphabealejpfnaaDoor.F Go.Proofs.YtphabealejpfnaaDoorW.PrintWords Go.Proofs.YtphabealejpfnaaDoorW.PrintLast

def allFrom (p : Int → Bool) (s : ByteArray) : Nat → Nat → Bool
  | 0, _ => true
  | d + 1, i => p (bt s i) && allFrom p s d (i + 1)
theorem allFrom_iff (p : Int → Bool) (s : ByteArray) : ∀ d i, allFrom p s d i = true ↔ ∀ j, i ≤ j → j < i + d → p (bt s j) = true := by
  intro d
  induction d with
  | zero =>
    intro i
    exact ⟨fun _ j h1 h2 => by omega, fun _ => rfl⟩
  | succ d ih =>
    intro i
    rw [allFrom, Bool.and_eq_true, ih (i + 1)]
    constructor
    · rintro ⟨h0, h1⟩ j hj1 hj2
      by_cases e : j = i
      · subst e; exact h0
      · exact h1 j (by omega) (by omega)
    · intro h
      exact ⟨h i (Nat.le_refl _) (by omega), fun j h1 h2 => h j (by omega) (by omega)⟩
theorem allFrom_runes (p : Int → Bool) (s : ByteArray) (hp : ∀ c : Int, 128 ≤ c → p c = false) : runesAll (fun c : Nat => p (c : Int)) s s.size 0 = allFrom p s s.size 0 := by
  rw [Bool.eq_iff_iff, runesAll_bytes _ (fun c h => hp _ (by omega)) s s.size 0 (by omega), allFrom_iff]
  constructor
  · intro h j _ hj
    have hj' : j < s.size := by omega
    rw [bt_eq s j hj']
    exact h j hj' (Nat.zero_le _)
  · intro h j hj _
    have := h j (Nat.zero_le _) (by omega)
    rwa [bt_eq s j hj] at this

def refUp (colon : Bool) (c : Int) : Bool := ltr c || (dgt c || (decide (c = 46) || (decide (c = 43) || (decide (c = 45) || (decide (c = 126) || (decide (c = 58) && colon))))))
def refRev (c : Int) : Bool := ltr c || (dgt c || (decide (c = 46) || (decide (c = 43) || decide (c = 126))))

theorem letter_f (c : Int) : depotref20_letter.f c = some (ltr c) := ltr_f c
theorem digit_f (c : Int) : depotref20_digit.f c = some (dgt c) := dgt_f c

theorem ref_l2 (e u r : ByteArray) (b1 b2 : Bool) (hs : r.size ≤ 140737488351232) : ∀ d i, i + d = r.size → Ev (fun k => depotref20_Legal.l2 k (i : Int) e u r b1 b2) (allFrom refRev r d i) := by
  intro d
  induction d with
  | zero =>
    intro i hi
    refine Ev.step (f := fun _ => some true) (fun k => ?_) (Ev.now _)
    simp only [depotref20_Legal.l2]
    rw [if_neg (by omega)]
  | succ d ih =>
    intro i hi
    have ew : wrap64 ((i : Int) + 1) = ((i + 1 : Nat) : Int) := by rw [wrap_id (by omega) (by omega)]; omega
    have hstep : ∀ k, depotref20_Legal.l2 (k + 1) (i : Int) e u r b1 b2 = if refRev (bt r i) = true then depotref20_Legal.l2 k ((i + 1 : Nat) : Int) e u r b1 b2 else some false := by
      intro k
      simp only [depotref20_Legal.l2]
      rw [if_pos (by omega), if_pos (by omega), letter_f, Option.bind_some, digit_f, Option.bind_some, ew]
      unfold refRev
      cases ltr (bt r i) <;> cases dgt (bt r i) <;> simp
      repeat' split
      all_goals simp_all
    refine Ev.step (f := fun k => if refRev (bt r i) = true then depotref20_Legal.l2 k ((i + 1 : Nat) : Int) e u r b1 b2 else some false) hstep ?_
    rw [allFrom]
    by_cases h : refRev (bt r i) = true
    · simp only [h, Bool.true_and]
      exact ih (i + 1) (by omega)
    · simp only [if_neg h]
      rw [Bool.not_eq_true] at h
      rw [h]
      exact Ev.now _
theorem ref_l1 (e u r : ByteArray) (b1 b2 : Bool) (hr : r.size ≤ 140737488351232) (hs : u.size ≤ 140737488351232) : ∀ d i, i + d = u.size → Ev (fun k => depotref20_Legal.l1 k (i : Int) e u r b1 b2) (allFrom (refUp b1) u d i && allFrom refRev r r.size 0) := by
  intro d
  induction d with
  | zero =>
    intro i hi
    refine Ev.step (f := fun k => depotref20_Legal.l2 k ((0 : Nat) : Int) e u r b1 b2) (fun k => ?_) (ref_l2 e u r b1 b2 hr r.size 0 (by omega))
    simp only [depotref20_Legal.l1]
    rw [if_neg (by omega)]
    rfl
  | succ d ih =>
    intro i hi
    have ew : wrap64 ((i : Int) + 1) = ((i + 1 : Nat) : Int) := by rw [wrap_id (by omega) (by omega)]; omega
    have hstep : ∀ k, depotref20_Legal.l1 (k + 1) (i : Int) e u r b1 b2 = if refUp b1 (bt u i) = true then depotref20_Legal.l1 k ((i + 1 : Nat) : Int) e u r b1 b2 else some false := by
      intro k
      simp only [depotref20_Legal.l1]
      rw [if_pos (by omega), if_pos (by omega), letter_f, Option.bind_some, digit_f, Option.bind_some, ew]
      unfold refUp
      cases ltr (bt u i) <;> cases dgt (bt u i) <;> cases b1 <;> simp
      repeat' split
      all_goals simp_all
    refine Ev.step (f := fun k => if refUp b1 (bt u i) = true then depotref20_Legal.l1 k ((i + 1 : Nat) : Int) e u r b1 b2 else some false) hstep ?_
    rw [allFrom]
    by_cases h : refUp b1 (bt u i) = true
    · simp only [h, Bool.true_and]
      exact ih (i + 1) (by omega)
    · simp only [if_neg h]
      rw [Bool.not_eq_true] at h
      rw [h]
      exact Ev.now _
theorem ref_l0 (e u r : ByteArray) (b1 b2 : Bool) (hr : r.size ≤ 140737488351232) (hs : u.size ≤ 140737488351232) (he : e.size ≤ 140737488351232) : ∀ d i, i + d = e.size → Ev (fun k => depotref20_Legal.l0 k (i : Int) e u r b1 b2) (allFrom dgt e d i && (allFrom (refUp b1) u u.size 0 && allFrom refRev r r.size 0)) := by
  intro d
  induction d with
  | zero =>
    intro i hi
    refine Ev.step (f := fun k => depotref20_Legal.l1 k ((0 : Nat) : Int) e u r b1 b2) (fun k => ?_) (ref_l1 e u r b1 b2 hr hs u.size 0 (by omega))
    simp only [depotref20_Legal.l0]
    rw [if_neg (by omega)]
    rfl
  | succ d ih =>
    intro i hi
    have ew : wrap64 ((i : Int) + 1) = ((i + 1 : Nat) : Int) := by rw [wrap_id (by omega) (by omega)]; omega
    have hstep : ∀ k, depotref20_Legal.l0 (k + 1) (i : Int) e u r b1 b2 = if dgt (bt e i) = true then depotref20_Legal.l0 k ((i + 1 : Nat) : Int) e u r b1 b2 else some false := by
      intro k
      simp only [depotref20_Legal.l0]
      rw [if_pos (by omega), if_pos (by omega), digit_f, Option.bind_some, ew]
    refine Ev.step (f := fun k => if dgt (bt e i) = true then depotref20_Legal.l0 k ((i + 1 : Nat) : Int) e u r b1 b2 else some false) hstep ?_
    rw [allFrom]
    by_cases h : dgt (bt e i) = true
    · simp only [h, Bool.true_and]
      exact ih (i + 1) (by omega)
    · simp only [if_neg h]
      rw [Bool.not_eq_true] at h
      rw [h]
      exact Ev.now _
theorem ref_j0 (e u r : ByteArray) (b1 b2 x : Bool) (hr : r.size ≤ 140737488351232) (hs : u.size ≤ 140737488351232) (he : e.size ≤ 140737488351232) : Ev (fun k => depotref20_Legal.j0 k x e u r b1 b2) (!x && (allFrom dgt e e.size 0 && (allFrom (refUp b1) u u.size 0 && allFrom refRev r r.size 0))) := by
  refine Ev.step (f := fun k => if x = true then some false else depotref20_Legal.l0 k ((0 : Nat) : Int) e u r b1 b2) (fun k => by simp only [depotref20_Legal.j0]; rfl) ?_
  cases x
  · simpa using ref_l0 e u r b1 b2 hr hs he e.size 0 (by omega)
  · exact Ev.now _

/-! ### the same as the program's tests -/
theorem dgt_high (c : Int) (h : 128 ≤ c) : dgt c = false := by unfold dgt; exact decide_eq_false (by omega)
theorem ltr_high (c : Int) (h : 128 ≤ c) : ltr c = false := by
  unfold ltr
  rw [decide_eq_false (by omega), decide_eq_false (by omega)]
  rfl
theorem hasR_none (c : Int) : hasR emptyB c = false := rfl
theorem hasR_four (c : Int) : hasR ⟨#[46, 43, 45, 126]⟩ c = (decide (c = 46) || (decide (c = 43) || (decide (c = 45) || decide (c = 126)))) := by
  have h : hasR ⟨#[46, 43, 45, 126]⟩ c = !(decide (((46 : Nat) : Int) ≠ c) && (decide (((43 : Nat) : Int) ≠ c) && (decide (((45 : Nat) : Int) ≠ c) && (decide (((126 : Nat) : Int) ≠ c) && true)))) := rfl
  rw [h, Bool.eq_iff_iff]
  simp
  omega
theorem hasR_five (c : Int) : hasR ⟨#[46, 43, 45, 126, 58]⟩ c = (decide (c = 46) || (decide (c = 43) || (decide (c = 45) || (decide (c = 126) || decide (c = 58))))) := by
  have h : hasR ⟨#[46, 43, 45, 126, 58]⟩ c = !(decide (((46 : Nat) : Int) ≠ c) && (decide (((43 : Nat) : Int) ≠ c) && (decide (((45 : Nat) : Int) ≠ c) && (decide (((126 : Nat) : Int) ≠ c) && (decide (((58 : Nat) : Int) ≠ c) && true))))) := rfl
  rw [h, Bool.eq_iff_iff]
  simp
  omega
theorem hasR_three (c : Int) : hasR ⟨#[43, 46, 126]⟩ c = (decide (c = 43) || (decide (c = 46) || decide (c = 126))) := by
  have h : hasR ⟨#[43, 46, 126]⟩ c = !(decide (((43 : Nat) : Int) ≠ c) && (decide (((46 : Nat) : Int) ≠ c) && (decide (((126 : Nat) : Int) ≠ c) && true))) := rfl
  rw [h, Bool.eq_iff_iff]
  simp
  omega
theorem made_epoch : madeP false emptyB = fun c : Nat => dgt (c : Int) := by
  funext c
  unfold madeP
  rw [hasR_none]
  simp
theorem made_up (colon : Bool) : madeP true (othersOf colon) = fun c : Nat => refUp colon (c : Int) := by
  funext c
  unfold madeP refUp othersOf
  cases colon
  · simp only [Bool.false_eq_true, if_false]
    rw [hasR_four, Bool.eq_iff_iff]
    simp
    constructor
    · rintro ((h | h) | ⟨_, h⟩)
      · exact .inr (.inl h)
      · exact .inl h
      · exact .inr (.inr (by omega))
    · rintro (h | h | h)
      · exact .inl (.inr h)
      · exact .inl (.inl h)
      · exact .inr ⟨by omega, by omega⟩
  · simp only [if_true]
    rw [hasR_five, Bool.eq_iff_iff]
    simp
    constructor
    · rintro ((h | h) | ⟨_, h⟩)
      · exact .inr (.inl h)
      · exact .inl h
      · exact .inr (.inr (by omega))
    · rintro (h | h | h)
      · exact .inl (.inr h)
      · exact .inl (.inl h)
      · exact .inr ⟨by omega, by omega⟩
theorem made_rev : madeP true ⟨#[43, 46, 126]⟩ = fun c : Nat => refRev (c : Int) := by
  funext c
  unfold madeP refRev
  rw [hasR_three, Bool.eq_iff_iff]
  simp
  constructor
  · rintro ((h | h) | ⟨_, h⟩)
    · exact .inr (.inl h)
    · exact .inl h
    · exact .inr (.inr (by omega))
  · rintro (h | h | h)
    · exact .inl (.inr h)
    · exact .inl (.inl h)
    · exact .inr ⟨by omega, by omega⟩
theorem refUp_high (b : Bool) (c : Int) (h : 128 ≤ c) : refUp b c = false := by
  unfold refUp
  rw [dgt_high c h, ltr_high c h, decide_eq_false (by omega), decide_eq_false (by omega), decide_eq_false (by omega), decide_eq_false (by omega), decide_eq_false (by omega)]
  rfl
theorem refRev_high (c : Int) (h : 128 ≤ c) : refRev c = false := by
  unfold refRev
  rw [dgt_high c h, ltr_high c h, decide_eq_false (by omega), decide_eq_false (by omega), decide_eq_false (by omega)]
  rfl
theorem okS_eq (s : ByteArray) : okS s = (ok1 (colonS s) (minusS s) (epochS s) (upS s) (revS s) && (allFrom dgt (epochS s) (epochS s).size 0 && (allFrom (refUp (colonS s)) (upS s) (upS s).size 0 && allFrom refRev (revS s) (revS s).size 0))) := by
  unfold okS fin
  simp only
  rw [made_epoch, made_up, made_rev, allFrom_runes dgt _ dgt_high, allFrom_runes (refUp _) _ (refUp_high _), allFrom_runes refRev _ refRev_high]

theorem sub_le (s : ByteArray) (i : Int) : (upR s i).size ≤ s.size ∧ (revR s i).size ≤ s.size ∧ (epochR s i).size ≤ s.size := by
  unfold upR revR epochR
  refine ⟨?_, ?_, ?_⟩
  all_goals
    split
    · simp; try omega
    · first | exact Nat.le_refl _ | exact Nat.zero_le _
theorem empty_of (s : ByteArray) : s.toList = [] ↔ s.size = 0 := by
  rw [Lib.toList_data]
  constructor
  · intro h
    have : s.data.toList.length = 0 := by rw [h]; rfl
    simpa using this
  · intro h
    exact List.eq_nil_of_length_eq_zero (by simpa using h)
theorem legal_ev (s : ByteArray) (hs : s.size ≤ 140737488351232) : Ev (fun k => depotref20_Legal.f k s) (okS s) := by
  have hb := behind_le s
  have h1 := sub_le (behindS s) (minusI s)
  have h2 := (sub_le s (colonI s)).2.2
  have hu : (upS s).size ≤ 140737488351232 := by unfold upS; omega
  have hr : (revS s).size ≤ 140737488351232 := by unfold revS; omega
  have he : (epochS s).size ≤ 140737488351232 := by unfold epochS; omega
  have hj := fun x => ref_j0 (epochS s) (upS s) (revS s) (colonS s) (minusS s) x hr hu he
  rw [okS_eq]
  unfold depotref20_Legal.f
  refine Ev.bind (refparted_ev s hs) ?_
  simp only
  unfold ok1
  have n1 : ¬ (epochS s).toList = [] → (epochS s).toList.isEmpty = false := fun h => by simpa using h
  have n2 : ¬ (upS s).toList = [] → (upS s).toList.isEmpty = false := fun h => by simpa using h
  have n3 : ¬ (revS s).toList = [] → (revS s).toList.isEmpty = false := fun h => by simpa using h
  have hp : ¬ (upS s).toList = [] → (0 : Int) < ((upS s).size : Int) := fun h => by
    have := mt (empty_of (upS s)).2 h
    omega
  generalize (allFrom dgt (epochS s) (epochS s).size 0 && (allFrom (refUp (colonS s)) (upS s) (upS s).size 0 && allFrom refRev (revS s) (revS s).size 0)) = A at hj ⊢
  by_cases e1 : (epochS s).toList = []
  all_goals by_cases e2 : (upS s).toList = []
  all_goals by_cases e3 : (revS s).toList = []
  all_goals cases hc : colonS s
  all_goals cases hm : minusS s
  all_goals rw [hc, hm] at hj
  all_goals first | (have f1 := n1 e1) | (have f1 : (epochS s).toList.isEmpty = true := congrArg List.isEmpty e1)
  all_goals first | (have f2 := n2 e2) | (have f2 : (upS s).toList.isEmpty = true := congrArg List.isEmpty e2)
  all_goals first | (have f3 := n3 e3) | (have f3 : (revS s).toList.isEmpty = true := congrArg List.isEmpty e3)
  all_goals simp only [e1, e2, e3, f1, f2, f3, if_true, if_false, Bool.false_eq_true, Bool.not_false, Bool.not_true, Bool.true_or, Bool.false_or, Bool.true_and, Bool.false_and]
  all_goals first
    | exact hj true
    | (simp only [if_pos (hp e2), digit_f, Option.bind_some]
       have z := hj (!dgt (bt (upS s) 0))
       rw [Bool.not_not] at z
       exact z)
end Go.Proofs.YtphabealejpfnaaDoor.Ver
