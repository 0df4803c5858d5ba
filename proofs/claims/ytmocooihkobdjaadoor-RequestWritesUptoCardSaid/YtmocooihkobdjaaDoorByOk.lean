/-
  Plain Lean: what a version's bytes are, byte by byte.
-/
import Derived.Test.YtmocooihkobdjaaDoorByVer
import Derived.KernelRfl
set_option linter.unusedVariables false
set_option linter.unusedSimpArgs false
namespace Go.Proofs.YtmocooihkobdjaaDoor.Ver
open Go.RowKit Go.Proofs.YtmocooihkobdjaaDoor.B Go.Proofs.YtmocooihkobdjaaDoorW.PrintWords Go.Proofs.YtmocooihkobdjaaDoorW.PrintLast

def allFrom (p : Int → Bool) (s : ByteArray) : Nat → Nat → Bool
  | 0, _ => true
  | d + 1, i => p (bt s i) && allFrom p s d (i + 1)
theorem allFrom_iff (p : Int → Bool) (s : ByteArray) : ∀ d i, allFrom p s d i = true ↔ ∀ j, i ≤ j → j < i + d → p (bt s j) = true := by
  intro d
  induction d with
  | zero =>
    intro i
    exact ⟨fun _ j h1 h2 => by omega, fun _ => rfl⟩
  | succ d ih =>
    intro i
    rw [allFrom, Bool.and_eq_true, ih (i + 1)]
    constructor
    · rintro ⟨h0, h1⟩ j hj1 hj2
      by_cases e : j = i
      · subst e; exact h0
      · exact h1 j (by omega) (by omega)
    · intro h
      exact ⟨h i (Nat.le_refl _) (by omega), fun j h1 h2 => h j (by omega) (by omega)⟩
theorem allFrom_runes (p : Int → Bool) (s : ByteArray) (hp : ∀ c : Int, 128 ≤ c → p c = false) : runesAll (fun c : Nat => p (c : Int)) s s.size 0 = allFrom p s s.size 0 := by
  rw [Bool.eq_iff_iff, runesAll_bytes _ (fun c h => hp _ (by omega)) s s.size 0 (by omega), allFrom_iff]
  constructor
  · intro h j _ hj
    have hj' : j < s.size := by omega
    rw [bt_eq s j hj']
    exact h j hj' (Nat.zero_le _)
  · intro h j hj _
    have := h j (Nat.zero_le _) (by omega)
    rwa [bt_eq s j hj] at this

def refUp (colon : Bool) (c : Int) : Bool := ltr c || (dgt c || (decide (c = 46) || (decide (c = 43) || (decide (c = 45) || (decide (c = 126) || (decide (c = 58) && colon))))))
def refRev (c : Int) : Bool := ltr c || (dgt c || (decide (c = 46) || (decide (c = 43) || decide (c = 126))))

/-! ### the same as the program's tests -/
theorem dgt_high (c : Int) (h : 128 ≤ c) : dgt c = false := by unfold dgt; exact decide_eq_false (by omega)
theorem ltr_high (c : Int) (h : 128 ≤ c) : ltr c = false := by
  unfold ltr
  rw [decide_eq_false (by omega), decide_eq_false (by omega)]
  rfl
theorem hasR_none (c : Int) : hasR emptyB c = false := rfl
theorem hasR_four (c : Int) : hasR ⟨#[46, 43, 45, 126]⟩ c = (decide (c = 46) || (decide (c = 43) || (decide (c = 45) || decide (c = 126)))) := by
  have h : hasR ⟨#[46, 43, 45, 126]⟩ c = !(decide (((46 : Nat) : Int) ≠ c) && (decide (((43 : Nat) : Int) ≠ c) && (decide (((45 : Nat) : Int) ≠ c) && (decide (((126 : Nat) : Int) ≠ c) && true)))) := rfl
  rw [h, Bool.eq_iff_iff]
  simp
  omega
theorem hasR_five (c : Int) : hasR ⟨#[46, 43, 45, 126, 58]⟩ c = (decide (c = 46) || (decide (c = 43) || (decide (c = 45) || (decide (c = 126) || decide (c = 58))))) := by
  have h : hasR ⟨#[46, 43, 45, 126, 58]⟩ c = !(decide (((46 : Nat) : Int) ≠ c) && (decide (((43 : Nat) : Int) ≠ c) && (decide (((45 : Nat) : Int) ≠ c) && (decide (((126 : Nat) : Int) ≠ c) && (decide (((58 : Nat) : Int) ≠ c) && true))))) := rfl
  rw [h, Bool.eq_iff_iff]
  simp
  omega
theorem hasR_three (c : Int) : hasR ⟨#[43, 46, 126]⟩ c = (decide (c = 43) || (decide (c = 46) || decide (c = 126))) := by
  have h : hasR ⟨#[43, 46, 126]⟩ c = !(decide (((43 : Nat) : Int) ≠ c) && (decide (((46 : Nat) : Int) ≠ c) && (decide (((126 : Nat) : Int) ≠ c) && true))) := rfl
  rw [h, Bool.eq_iff_iff]
  simp
  omega
theorem made_epoch : madeP false emptyB = fun c : Nat => dgt (c : Int) := by
  funext c
  unfold madeP
  rw [hasR_none]
  simp
theorem made_up (colon : Bool) : madeP true (othersOf colon) = fun c : Nat => refUp colon (c : Int) := by
  funext c
  unfold madeP refUp othersOf
  cases colon
  · simp only [Bool.false_eq_true, if_false]
    rw [hasR_four, Bool.eq_iff_iff]
    simp
    constructor
    · rintro ((h | h) | ⟨_, h⟩)
      · exact .inr (.inl h)
      · exact .inl h
      · exact .inr (.inr (by omega))
    · rintro (h | h | h)
      · exact .inl (.inr h)
      · exact .inl (.inl h)
      · exact .inr ⟨by omega, by omega⟩
  · simp only [if_true]
    rw [hasR_five, Bool.eq_iff_iff]
    simp
    constructor
    · rintro ((h | h) | ⟨_, h⟩)
      · exact .inr (.inl h)
      · exact .inl h
      · exact .inr (.inr (by omega))
    · rintro (h | h | h)
      · exact .inl (.inr h)
      · exact .inl (.inl h)
      · exact .inr ⟨by omega, by omega⟩
theorem made_rev : madeP true ⟨#[43, 46, 126]⟩ = fun c : Nat => refRev (c : Int) := by
  funext c
  unfold madeP refRev
  rw [hasR_three, Bool.eq_iff_iff]
  simp
  constructor
  · rintro ((h | h) | ⟨_, h⟩)
    · exact .inr (.inl h)
    · exact .inl h
    · exact .inr (.inr (by omega))
  · rintro (h | h | h)
    · exact .inl (.inr h)
    · exact .inl (.inl h)
    · exact .inr ⟨by omega, by omega⟩
theorem refUp_high (b : Bool) (c : Int) (h : 128 ≤ c) : refUp b c = false := by
  unfold refUp
  rw [dgt_high c h, ltr_high c h, decide_eq_false (by omega), decide_eq_false (by omega), decide_eq_false (by omega), decide_eq_false (by omega), decide_eq_false (by omega)]
  rfl
theorem refRev_high (c : Int) (h : 128 ≤ c) : refRev c = false := by
  unfold refRev
  rw [dgt_high c h, ltr_high c h, decide_eq_false (by omega), decide_eq_false (by omega), decide_eq_false (by omega)]
  rfl
theorem okS_eq (s : ByteArray) : okS s = (ok1 (colonS s) (minusS s) (epochS s) (upS s) (revS s) && (allFrom dgt (epochS s) (epochS s).size 0 && (allFrom (refUp (colonS s)) (upS s) (upS s).size 0 && allFrom refRev (revS s) (revS s).size 0))) := by
  unfold okS fin
  simp only
  rw [made_epoch, made_up, made_rev, allFrom_runes dgt _ dgt_high, allFrom_runes (refUp _) _ (refUp_high _), allFrom_runes refRev _ refRev_high]

theorem sub_le (s : ByteArray) (i : Int) : (upR s i).size ≤ s.size ∧ (revR s i).size ≤ s.size ∧ (epochR s i).size ≤ s.size := by
  unfold upR revR epochR
  refine ⟨?_, ?_, ?_⟩
  all_goals
    split
    · simp; try omega
    · first | exact Nat.le_refl _ | exact Nat.zero_le _
theorem empty_of (s : ByteArray) : s.toList = [] ↔ s.size = 0 := by
  rw [Lib.toList_data]
  constructor
  · intro h
    have : s.data.toList.length = 0 := by rw [h]; rfl
    simpa using this
  · intro h
    exact List.eq_nil_of_length_eq_zero (by simpa using h)
end Go.Proofs.YtmocooihkobdjaaDoor.Ver
