/- RequestJoins holds for every two requests of bulk at most 1048576 together: request.Join answers the request, or the refusal, that depotref24 answers. -/
import Derived.KernelRfl
import Derived.Deep.Slices
import Derived.Deep.Strs
import Derived.ChangeArms
import Derived.Test.YtmocooihkobdjaaDoorRows
import Derived.Lib.SmallJoins
import Derived.WideShapes
import Derived.ChangeSame
import Derived.Below
import Derived.SizedLaws
import Derived.ShutString
import Derived.ChangeOld
import Derived.Carry
import Derived.Test.YtmocooihkobdjaaDoorEk0
import Derived.Test.YtmocooihkobdjaaDoorEk1
import Derived.Test.YtmocooihkobdjaaDoorEk6
section
set_option linter.unusedVariables false
set_option linter.unusedSimpArgs false
namespace Go.Proofs.YtmocooihkobdjaaDoor.Ver
open Go.RowKit Go.Proofs.YtmocooihkobdjaaDoor.E Go.Proofs.YtmocooihkobdjaaDoorW.PrintWords Go.Proofs.YtmocooihkobdjaaDoorW.PrintLast
def allFrom (p : Int → Bool) (s : ByteArray) : Nat → Nat → Bool
  | 0, _ => true
  | d + 1, i => p (bt s i) && allFrom p s d (i + 1)
theorem allFrom_iff (p : Int → Bool) (s : ByteArray) : ∀ d i, allFrom p s d i = true ↔ ∀ j, i ≤ j → j < i + d → p (bt s j) = true := by
  intro d
  induction d with
  | zero =>
    intro i
    exact ⟨fun _ j h1 h2 => by omega, fun _ => rfl⟩
  | succ d ih =>
    intro i
    rw [allFrom, Bool.and_eq_true, ih (i + 1)]
    constructor
    · rintro ⟨h0, h1⟩ j hj1 hj2
      by_cases e : j = i
      · subst e; exact h0
      · exact h1 j (by omega) (by omega)
    · intro h
      exact ⟨h i (Nat.le_refl _) (by omega), fun j h1 h2 => h j (by omega) (by omega)⟩
theorem allFrom_runes (p : Int → Bool) (s : ByteArray) (hp : ∀ c : Int, 128 ≤ c → p c = false) : runesAll (fun c : Nat => p (c : Int)) s s.size 0 = allFrom p s s.size 0 := by
  rw [Bool.eq_iff_iff, runesAll_bytes _ (fun c h => hp _ (by omega)) s s.size 0 (by omega), allFrom_iff]
  constructor
  · intro h j _ hj
    have hj' : j < s.size := by omega
    rw [bt_eq s j hj']
    exact h j hj' (Nat.zero_le _)
  · intro h j hj _
    have := h j (Nat.zero_le _) (by omega)
    rwa [bt_eq s j hj] at this
def refUp (colon : Bool) (c : Int) : Bool := ltr c || (dgt c || (decide (c = 46) || (decide (c = 43) || (decide (c = 45) || (decide (c = 126) || (decide (c = 58) && colon))))))
def refRev (c : Int) : Bool := ltr c || (dgt c || (decide (c = 46) || (decide (c = 43) || decide (c = 126))))
theorem dgt_high (c : Int) (h : 128 ≤ c) : dgt c = false := by unfold dgt; exact decide_eq_false (by omega)
theorem ltr_high (c : Int) (h : 128 ≤ c) : ltr c = false := by
  unfold ltr
  rw [decide_eq_false (by omega), decide_eq_false (by omega)]
  rfl
theorem hasR_none (c : Int) : hasR emptyB c = false := rfl
theorem hasR_four (c : Int) : hasR ⟨#[46, 43, 45, 126]⟩ c = (decide (c = 46) || (decide (c = 43) || (decide (c = 45) || decide (c = 126)))) := by
  have h : hasR ⟨#[46, 43, 45, 126]⟩ c = !(decide (((46 : Nat) : Int) ≠ c) && (decide (((43 : Nat) : Int) ≠ c) && (decide (((45 : Nat) : Int) ≠ c) && (decide (((126 : Nat) : Int) ≠ c) && true)))) := rfl
  rw [h, Bool.eq_iff_iff]
  simp
  omega
theorem hasR_five (c : Int) : hasR ⟨#[46, 43, 45, 126, 58]⟩ c = (decide (c = 46) || (decide (c = 43) || (decide (c = 45) || (decide (c = 126) || decide (c = 58))))) := by
  have h : hasR ⟨#[46, 43, 45, 126, 58]⟩ c = !(decide (((46 : Nat) : Int) ≠ c) && (decide (((43 : Nat) : Int) ≠ c) && (decide (((45 : Nat) : Int) ≠ c) && (decide (((126 : Nat) : Int) ≠ c) && (decide (((58 : Nat) : Int) ≠ c) && true))))) := rfl
  rw [h, Bool.eq_iff_iff]
  simp
  omega
theorem hasR_three (c : Int) : hasR ⟨#[43, 46, 126]⟩ c = (decide (c = 43) || (decide (c = 46) || decide (c = 126))) := by
  have h : hasR ⟨#[43, 46, 126]⟩ c = !(decide (((43 : Nat) : Int) ≠ c) && (decide (((46 : Nat) : Int) ≠ c) && (decide (((126 : Nat) : Int) ≠ c) && true))) := rfl
  rw [h, Bool.eq_iff_iff]
  simp
  omega
theorem made_epoch : madeP false emptyB = fun c : Nat => dgt (c : Int) := by
  funext c
  unfold madeP
  rw [hasR_none]
  simp
theorem made_up (colon : Bool) : madeP true (othersOf colon) = fun c : Nat => refUp colon (c : Int) := by
  funext c
  unfold madeP refUp othersOf
  cases colon
  · simp only [Bool.false_eq_true, if_false]
    rw [hasR_four, Bool.eq_iff_iff]
    simp
    constructor
    · rintro ((h | h) | ⟨_, h⟩)
      · exact .inr (.inl h)
      · exact .inl h
      · exact .inr (.inr (by omega))
    · rintro (h | h | h)
      · exact .inl (.inr h)
      · exact .inl (.inl h)
      · exact .inr ⟨by omega, by omega⟩
  · simp only [if_true]
    rw [hasR_five, Bool.eq_iff_iff]
    simp
    constructor
    · rintro ((h | h) | ⟨_, h⟩)
      · exact .inr (.inl h)
      · exact .inl h
      · exact .inr (.inr (by omega))
    · rintro (h | h | h)
      · exact .inl (.inr h)
      · exact .inl (.inl h)
      · exact .inr ⟨by omega, by omega⟩
theorem made_rev : madeP true ⟨#[43, 46, 126]⟩ = fun c : Nat => refRev (c : Int) := by
  funext c
  unfold madeP refRev
  rw [hasR_three, Bool.eq_iff_iff]
  simp
  constructor
  · rintro ((h | h) | ⟨_, h⟩)
    · exact .inr (.inl h)
    · exact .inl h
    · exact .inr (.inr (by omega))
  · rintro (h | h | h)
    · exact .inl (.inr h)
    · exact .inl (.inl h)
    · exact .inr ⟨by omega, by omega⟩
theorem refUp_high (b : Bool) (c : Int) (h : 128 ≤ c) : refUp b c = false := by
  unfold refUp
  rw [dgt_high c h, ltr_high c h, decide_eq_false (by omega), decide_eq_false (by omega), decide_eq_false (by omega), decide_eq_false (by omega), decide_eq_false (by omega)]
  rfl
theorem refRev_high (c : Int) (h : 128 ≤ c) : refRev c = false := by
  unfold refRev
  rw [dgt_high c h, ltr_high c h, decide_eq_false (by omega), decide_eq_false (by omega), decide_eq_false (by omega)]
  rfl
theorem okS_eq (s : ByteArray) : okS s = (ok1 (colonS s) (minusS s) (epochS s) (upS s) (revS s) && (allFrom dgt (epochS s) (epochS s).size 0 && (allFrom (refUp (colonS s)) (upS s) (upS s).size 0 && allFrom refRev (revS s) (revS s).size 0))) := by
  unfold okS fin
  simp only
  rw [made_epoch, made_up, made_rev, allFrom_runes dgt _ dgt_high, allFrom_runes (refUp _) _ (refUp_high _), allFrom_runes refRev _ refRev_high]
theorem sub_le (s : ByteArray) (i : Int) : (upR s i).size ≤ s.size ∧ (revR s i).size ≤ s.size ∧ (epochR s i).size ≤ s.size := by
  unfold upR revR epochR
  refine ⟨?_, ?_, ?_⟩
  all_goals
    split
    · simp; try omega
    · first | exact Nat.le_refl _ | exact Nat.zero_le _
theorem empty_of (s : ByteArray) : s.toList = [] ↔ s.size = 0 := by
  rw [Lib.toList_data]
  constructor
  · intro h
    have : s.data.toList.length = 0 := by rw [h]; rfl
    simpa using this
  · intro h
    exact List.eq_nil_of_length_eq_zero (by simpa using h)
end Go.Proofs.YtmocooihkobdjaaDoor.Ver
end
section
set_option linter.unusedVariables false
set_option linter.unusedSimpArgs false
namespace Go.Proofs.YtmocooihkobdjaaDoor.Ver
open Go.RowKit Go.Proofs.YtmocooihkobdjaaDoor.E Go.Proofs.YtmocooihkobdjaaDoorW.PrintWords Go.Proofs.YtmocooihkobdjaaDoorW.PrintLast
theorem letter_f (c : Int) : depotref20_letter.f c = some (ltr c) := ltr_f c
theorem digit_f (c : Int) : depotref20_digit.f c = some (dgt c) := dgt_f c
theorem ref_l2 (e u r : ByteArray) (b1 b2 : Bool) (hs : r.size ≤ 140737488351232) : ∀ d i, i + d = r.size → Ev (fun k => depotref20_Legal.l2 k (i : Int) e u r b1 b2) (allFrom refRev r d i) := by
  intro d
  induction d with
  | zero =>
    intro i hi
    refine Ev.step (f := fun _ => some true) (fun k => ?_) (Ev.now _)
    simp only [depotref20_Legal.l2]
    rw [if_neg (by omega)]
  | succ d ih =>
    intro i hi
    have ew : wrap64 ((i : Int) + 1) = ((i + 1 : Nat) : Int) := by rw [wrap_id (by omega) (by omega)]; omega
    have hstep : ∀ k, depotref20_Legal.l2 (k + 1) (i : Int) e u r b1 b2 = if refRev (bt r i) = true then depotref20_Legal.l2 k ((i + 1 : Nat) : Int) e u r b1 b2 else some false := by
      intro k
      simp only [depotref20_Legal.l2]
      rw [if_pos (by omega), if_pos (by omega), letter_f, Option.bind_some, digit_f, Option.bind_some, ew]
      unfold refRev
      cases ltr (bt r i) <;> cases dgt (bt r i) <;> simp
      repeat' split
      all_goals simp_all
    refine Ev.step (f := fun k => if refRev (bt r i) = true then depotref20_Legal.l2 k ((i + 1 : Nat) : Int) e u r b1 b2 else some false) hstep ?_
    rw [allFrom]
    by_cases h : refRev (bt r i) = true
    · simp only [h, Bool.true_and]
      exact ih (i + 1) (by omega)
    · simp only [if_neg h]
      rw [Bool.not_eq_true] at h
      rw [h]
      exact Ev.now _
theorem ref_l1 (e u r : ByteArray) (b1 b2 : Bool) (hr : r.size ≤ 140737488351232) (hs : u.size ≤ 140737488351232) : ∀ d i, i + d = u.size → Ev (fun k => depotref20_Legal.l1 k (i : Int) e u r b1 b2) (allFrom (refUp b1) u d i && allFrom refRev r r.size 0) := by
  intro d
  induction d with
  | zero =>
    intro i hi
    refine Ev.step (f := fun k => depotref20_Legal.l2 k ((0 : Nat) : Int) e u r b1 b2) (fun k => ?_) (ref_l2 e u r b1 b2 hr r.size 0 (by omega))
    simp only [depotref20_Legal.l1]
    rw [if_neg (by omega)]
    rfl
  | succ d ih =>
    intro i hi
    have ew : wrap64 ((i : Int) + 1) = ((i + 1 : Nat) : Int) := by rw [wrap_id (by omega) (by omega)]; omega
    have hstep : ∀ k, depotref20_Legal.l1 (k + 1) (i : Int) e u r b1 b2 = if refUp b1 (bt u i) = true then depotref20_Legal.l1 k ((i + 1 : Nat) : Int) e u r b1 b2 else some false := by
      intro k
      simp only [depotref20_Legal.l1]
      rw [if_pos (by omega), if_pos (by omega), letter_f, Option.bind_some, digit_f, Option.bind_some, ew]
      unfold refUp
      cases ltr (bt u i) <;> cases dgt (bt u i) <;> cases b1 <;> simp
      repeat' split
      all_goals simp_all
    refine Ev.step (f := fun k => if refUp b1 (bt u i) = true then depotref20_Legal.l1 k ((i + 1 : Nat) : Int) e u r b1 b2 else some false) hstep ?_
    rw [allFrom]
    by_cases h : refUp b1 (bt u i) = true
    · simp only [h, Bool.true_and]
      exact ih (i + 1) (by omega)
    · simp only [if_neg h]
      rw [Bool.not_eq_true] at h
      rw [h]
      exact Ev.now _
theorem ref_l0 (e u r : ByteArray) (b1 b2 : Bool) (hr : r.size ≤ 140737488351232) (hs : u.size ≤ 140737488351232) (he : e.size ≤ 140737488351232) : ∀ d i, i + d = e.size → Ev (fun k => depotref20_Legal.l0 k (i : Int) e u r b1 b2) (allFrom dgt e d i && (allFrom (refUp b1) u u.size 0 && allFrom refRev r r.size 0)) := by
  intro d
  induction d with
  | zero =>
    intro i hi
    refine Ev.step (f := fun k => depotref20_Legal.l1 k ((0 : Nat) : Int) e u r b1 b2) (fun k => ?_) (ref_l1 e u r b1 b2 hr hs u.size 0 (by omega))
    simp only [depotref20_Legal.l0]
    rw [if_neg (by omega)]
    rfl
  | succ d ih =>
    intro i hi
    have ew : wrap64 ((i : Int) + 1) = ((i + 1 : Nat) : Int) := by rw [wrap_id (by omega) (by omega)]; omega
    have hstep : ∀ k, depotref20_Legal.l0 (k + 1) (i : Int) e u r b1 b2 = if dgt (bt e i) = true then depotref20_Legal.l0 k ((i + 1 : Nat) : Int) e u r b1 b2 else some false := by
      intro k
      simp only [depotref20_Legal.l0]
      rw [if_pos (by omega), if_pos (by omega), digit_f, Option.bind_some, ew]
    refine Ev.step (f := fun k => if dgt (bt e i) = true then depotref20_Legal.l0 k ((i + 1 : Nat) : Int) e u r b1 b2 else some false) hstep ?_
    rw [allFrom]
    by_cases h : dgt (bt e i) = true
    · simp only [h, Bool.true_and]
      exact ih (i + 1) (by omega)
    · simp only [if_neg h]
      rw [Bool.not_eq_true] at h
      rw [h]
      exact Ev.now _
theorem ref_j0 (e u r : ByteArray) (b1 b2 x : Bool) (hr : r.size ≤ 140737488351232) (hs : u.size ≤ 140737488351232) (he : e.size ≤ 140737488351232) : Ev (fun k => depotref20_Legal.j0 k x e u r b1 b2) (!x && (allFrom dgt e e.size 0 && (allFrom (refUp b1) u u.size 0 && allFrom refRev r r.size 0))) := by
  refine Ev.step (f := fun k => if x = true then some false else depotref20_Legal.l0 k ((0 : Nat) : Int) e u r b1 b2) (fun k => by simp only [depotref20_Legal.j0]; rfl) ?_
  cases x
  · simpa using ref_l0 e u r b1 b2 hr hs he e.size 0 (by omega)
  · exact Ev.now _
theorem legal_ev (s : ByteArray) (hs : s.size ≤ 140737488351232) : Ev (fun k => depotref20_Legal.f k s) (okS s) := by
  have hb := behind_le s
  have h1 := sub_le (behindS s) (minusI s)
  have h2 := (sub_le s (colonI s)).2.2
  have hu : (upS s).size ≤ 140737488351232 := by unfold upS; omega
  have hr : (revS s).size ≤ 140737488351232 := by unfold revS; omega
  have he : (epochS s).size ≤ 140737488351232 := by unfold epochS; omega
  have hj := fun x => ref_j0 (epochS s) (upS s) (revS s) (colonS s) (minusS s) x hr hu he
  rw [okS_eq]
  unfold depotref20_Legal.f
  refine Ev.bind (refparted_ev s hs) ?_
  simp only
  unfold ok1
  have n1 : ¬ (epochS s).toList = [] → (epochS s).toList.isEmpty = false := fun h => by simpa using h
  have n2 : ¬ (upS s).toList = [] → (upS s).toList.isEmpty = false := fun h => by simpa using h
  have n3 : ¬ (revS s).toList = [] → (revS s).toList.isEmpty = false := fun h => by simpa using h
  have hp : ¬ (upS s).toList = [] → (0 : Int) < ((upS s).size : Int) := fun h => by
    have := mt (empty_of (upS s)).2 h
    omega
  generalize (allFrom dgt (epochS s) (epochS s).size 0 && (allFrom (refUp (colonS s)) (upS s) (upS s).size 0 && allFrom refRev (revS s) (revS s).size 0)) = A at hj ⊢
  by_cases e1 : (epochS s).toList = []
  all_goals by_cases e2 : (upS s).toList = []
  all_goals by_cases e3 : (revS s).toList = []
  all_goals cases hc : colonS s
  all_goals cases hm : minusS s
  all_goals rw [hc, hm] at hj
  all_goals first | (have f1 := n1 e1) | (have f1 : (epochS s).toList.isEmpty = true := congrArg List.isEmpty e1)
  all_goals first | (have f2 := n2 e2) | (have f2 : (upS s).toList.isEmpty = true := congrArg List.isEmpty e2)
  all_goals first | (have f3 := n3 e3) | (have f3 : (revS s).toList.isEmpty = true := congrArg List.isEmpty e3)
  all_goals simp only [e1, e2, e3, f1, f2, f3, if_true, if_false, Bool.false_eq_true, Bool.not_false, Bool.not_true, Bool.true_or, Bool.false_or, Bool.true_and, Bool.false_and]
  all_goals first
    | exact hj true
    | (simp only [if_pos (hp e2), digit_f, Option.bind_some]
       have z := hj (!dgt (bt (upS s) 0))
       rw [Bool.not_not] at z
       exact z)
end Go.Proofs.YtmocooihkobdjaaDoor.Ver
end
section
set_option linter.unusedVariables false
set_option linter.unusedSimpArgs false
namespace Go.Proofs.YtmocooihkobdjaaDoor.Model
open Go.RowKit Go.Proofs.YtmocooihkobdjaaDoor.E Go.Proofs.YtmocooihkobdjaaDoorW.PrintWords Go.Proofs.YtmocooihkobdjaaDoorW.PrintLast Go.Proofs.YtmocooihkobdjaaDoor.Ver
theorem rname_ev (s : ByteArray) (hs : s.size ≤ 140737488351232) : Ev (fun k => depotref22_Name.f k s) (nameM s.data.toList) := by
  have key : ∀ (d i : Nat), i + d = s.size → Ev (fun k => depotref22_Name.l0 k s (i : Int)) (nameL (decide (i = 0)) (at_ s i)) := by
    intro d
    induction d with
    | zero =>
      intro i hi
      obtain rfl : i = s.size := by omega
      rw [at_end]
      refine Ev.step (f := fun _ => some true) (fun k => ?_) (Ev.now _)
      simp only [depotref22_Name.l0]
      rw [if_neg (by omega)]
    | succ d ih =>
      intro i hi
      have hl : i < s.size := by omega
      have ew : wrap64 ((i : Int) + 1) = ((i + 1 : Nat) : Int) := by rw [wrap_id (by omega) (by omega)]; omega
      have hp := ih (i + 1) (by omega)
      rw [show decide (i + 1 = 0) = false from decide_eq_false (by omega)] at hp
      have hb := namB_int (decide (i = 0)) (s[i]'hl)
      have ep : ∀ k, depotref22_Name.l0 (k + 1) s (i : Int) = if namB (decide (i = 0)) (s[i]'hl) = true then depotref22_Name.l0 k s ((i + 1 : Nat) : Int) else some false := by
        intro k
        simp only [depotref22_Name.l0, ew, bt_eq s i hl, if_pos (show (i : Int) < s.size by omega), if_pos (show (0 : Int) ≤ i by omega)]
        rw [hb]
        repeat' split
        all_goals first | rfl | (exfalso; simp_all; done) | (exfalso; simp_all; omega)
      rw [at_lt hl, nameL]
      cases hg : namB (decide (i = 0)) (s[i]'hl) with
      | true =>
        rw [Bool.true_and]
        exact Ev.step (f := fun k => depotref22_Name.l0 k s ((i + 1 : Nat) : Int)) (fun k => by rw [ep, if_pos hg]) hp
      | false =>
        rw [Bool.false_and]
        exact Ev.step (f := fun _ => some false) (fun k => by rw [ep, if_neg (by simp [hg])]) (Ev.now _)
  have hl : s.data.toList.length = s.size := by simp
  unfold depotref22_Name.f nameM
  by_cases h : (s.size : Int) < 2
  · simp only [if_pos h]
    rw [decide_eq_false (show ¬ 1 < s.data.toList.length by omega), Bool.and_false]
    exact Ev.now _
  · simp only [if_neg h]
    rw [decide_eq_true (show 1 < s.data.toList.length by omega), Bool.and_true]
    exact key s.size 0 (by omega)
theorem rsign (z : Int) : depotref22_Sign.f z = some (wordOf z) := by
  unfold depotref22_Sign.f wordOf
  repeat' split
  all_goals rfl
theorem rform_ev (x : S46) (h : relW x ≤ 140737488351232) : Ev (fun k => depotref22_Formed.f k x.f0 x.f1 x.f2) (formM x) := by
  unfold relW at h
  have hn := rname_ev x.f0 (by omega)
  have hl := legal_ev x.f2 (by omega)
  unfold depotref22_Formed.f formM
  refine Ev.bind hn ?_
  cases nameM x.f0.data.toList with
  | false =>
    simp only [Bool.false_eq_true, if_false, Bool.false_and]
    exact Ev.now _
  | true =>
    simp only [if_true, Bool.true_and]
    by_cases h0 : x.f1 = 0
    · simp only [if_pos h0]
      exact Ev.now _
    · simp only [if_neg h0, rsign, Option.bind_some]
      by_cases hw : (wordOf x.f1).toList = []
      · simp only [if_pos hw]
        exact Ev.now _
      · simp only [if_neg hw]
        exact Ev.bind hl (Ev.now _)
end Go.Proofs.YtmocooihkobdjaaDoor.Model
end
section
set_option linter.unusedVariables false
set_option linter.unusedSimpArgs false
namespace Go.Proofs.YtmocooihkobdjaaDoor.Model
open Go.RowKit Go.Proofs.YtmocooihkobdjaaDoor.E Go.Proofs.YtmocooihkobdjaaDoorW.PrintWords Go.Proofs.YtmocooihkobdjaaDoorW.PrintLast Go.Proofs.YtmocooihkobdjaaDoor.Ver
theorem contains_ev : ∀ (l : List S46), (∀ x ∈ l, relW x ≤ 140737488351232) → Ev (fun k => api_Rel_24.f k l) (!l.all formM) := by
  intro l
  unfold api_Rel_24.f
  induction l with
  | nil => intro _; exact Ev.now _
  | cons x l ih =>
    intro h
    have hx := form_ev x (h x (List.mem_cons_self ..))
    have hl := ih (fun y hy => h y (List.mem_cons_of_mem _ hy))
    unfold api_Rel_24.l0
    refine Ev.bind hx ?_
    rw [List.all_cons]
    cases formM x with
    | true => simp only [if_true, Bool.true_and]; exact hl
    | false => simp only [Bool.false_eq_true, if_false, Bool.false_and, Bool.not_false]; exact Ev.now _
theorem reqform_l1 (L : List (List S46)) (hL : (L.map rowW).sum ≤ 1048576) : ∀ (d i : Nat), i + d = L.length → ∀ l : List S46, l.length + (L.drop i).flatten.length ≤ 4000000 → (∀ x ∈ l, relW x ≤ 140737488351232) →
    Ev (fun k => request_Formed.l1 k l L (L.length : Int) (i : Int)) (full (L.drop i) && (l ++ (L.drop i).flatten).all formM) := by
  have hLl := rows_length L
  have hfw := flat_weigh L
  intro d
  induction d with
  | zero =>
    intro i hi l hl hx
    obtain rfl : i = L.length := by omega
    rw [List.drop_length, List.flatten_nil, List.append_nil]
    refine Ev.step (f := fun k => (api_Rel_24.f k l).bind fun t => some (!t)) (fun k => ?_) (Ev.bind (contains_ev l hx) ?_)
    · simp only [request_Formed.l1]
      rw [if_neg (by omega)]
    · simp only [Bool.not_not, full, List.all_nil, Bool.true_and]
      exact Ev.now _
  | succ d ih =>
    intro i hi l hl hx
    have hi' : i < L.length := by omega
    have ew : wrap64 ((i : Int) + 1) = ((i + 1 : Nat) : Int) := by rw [wrap_id (by omega) (by omega)]; omega
    rw [drop_at hi', List.flatten_cons] at hl ⊢
    rw [List.length_append] at hl
    by_cases h0 : L[i] = []
    · refine Ev.step (f := fun _ => some false) (fun k => ?_) ?_
      · simp only [request_Formed.l1, rd_at hi', h0, List.length_nil]
        rw [if_pos (by omega), if_pos (by omega), if_pos (by omega), if_pos (by rfl)]
      · rw [full, List.all_cons, h0]
        exact Ev.now _
    · have hz : ¬ ((L[i].length : Nat) : Int) = 0 := by
        have : L[i].length ≠ 0 := fun q => h0 (List.eq_nil_of_length_eq_zero q)
        omega
      have hrow := rowW_mem (List.getElem_mem hi')
      have hrw : rowW L[i] = (L[i].map relW).sum + 1 := rfl
      have hn := ih (i + 1) (by omega) (l ++ L[i]) (by rw [List.length_append]; omega) (fun x hxm => by
        rcases List.mem_append.1 hxm with q | q
        · exact hx x q
        · have := relW_mem q; omega)
      have e : (full (L[i] :: L.drop (i + 1)) && (l ++ (L[i] ++ (L.drop (i + 1)).flatten)).all formM) = (full (L.drop (i + 1)) && ((l ++ L[i]) ++ (L.drop (i + 1)).flatten).all formM) := by
        rw [full, List.all_cons, List.append_assoc]
        have : (!L[i].isEmpty) = true := by simpa using h0
        rw [this, Bool.true_and]; rfl
      rw [e]
      refine Ev.step (f := _) (fun k => ?_) hn
      simp only [request_Formed.l1, rd_at hi', ew]
      rw [if_pos (by omega), if_pos (by omega), if_pos (by omega), if_neg hz, if_pos (by omega)]
theorem reqform_ev (L : List (List S46)) (F : List S46) (W : List S48) (h : reqW L F W ≤ 1048576) : Ev (fun k => request_Formed.f k L F W) (reqOk L F W) := by
  obtain ⟨h1, h2, h3, h4, h5⟩ := req_parts h
  have hL1 := fun l a b => reqform_l1 L (by omega) L.length 0 (by omega) l a b
  have hFx : ∀ x ∈ F, relW x ≤ 140737488351232 := fun x q => by have := relW_mem q; omega
  have hWx : ∀ x ∈ wrels W, relW x ≤ 140737488351232 := fun x q => by have := relW_mem q; omega
  have hB : L.flatten.length + F.length + W.length ≤ 1048576 := by omega
  have hF : F.length ≤ 1048576 := by omega
  have hW : W.length ≤ 1048576 := by omega
  clear h h1 h2 h3 h4 h5
  have key : ∀ (d i : Nat), i + d = W.length → ∀ l : List S46, l = F ++ wrels (W.take i) → Ev (fun k => request_Formed.l0 k l W (W.length : Int) (i : Int) L F W) (reqOk L F W) := by
    intro d
    induction d with
    | zero =>
      intro i hi l hl
      obtain rfl : i = W.length := by omega
      rw [List.take_length] at hl
      have hlen : l.length = F.length + W.length := by rw [hl, List.length_append]; unfold wrels; rw [List.length_map]
      have hn := hL1 l (by rw [List.drop_zero]; omega) (fun x hx => by
        rw [hl] at hx
        rcases List.mem_append.1 hx with q | q
        · exact hFx x q
        · exact hWx x q)
      rw [List.drop_zero, hl] at hn
      have e : (full L && ((F ++ wrels W) ++ L.flatten).all formM) = reqOk L F W := by
        unfold reqOk
        rw [okL_parts, List.all_append, List.all_append, fair_flat]
        cases full L <;> cases fair L <;> cases F.all formM <;> cases (wrels W).all formM <;> rfl
      rw [e] at hn
      rw [hl]
      refine Ev.step (f := _) (fun k => ?_) hn
      simp only [request_Formed.l0]
      rw [if_neg (by omega)]
      rfl
    | succ d ih =>
      intro i hi l hl
      have hi' : i < W.length := by omega
      have ew : wrap64 ((i : Int) + 1) = ((i + 1 : Nat) : Int) := by rw [wrap_id (by omega) (by omega)]; omega
      have hlen : l.length = F.length + i := by rw [hl, List.length_append]; unfold wrels; rw [List.length_map, List.length_take]; omega
      have hn := ih (i + 1) (by omega) (l ++ [W[i].f1]) (by rw [List.take_succ_eq_append_getElem hi', hl]; unfold wrels; rw [List.map_append, List.append_assoc]; rfl)
      refine Ev.step (f := _) (fun k => ?_) hn
      simp only [request_Formed.l0, wt_at hi', ew]
      rw [if_pos (by omega), if_pos (by omega), if_pos (by omega), if_pos (by omega)]
  unfold request_Formed.f
  have hc : api_Rel_23.f F = some F := by
    unfold api_Rel_23.f
    simp only [Option.bind_some, List.length_nil, List.nil_append]
    rw [if_pos (by omega)]
  rw [hc]
  exact key W.length 0 (by omega) F (by simp [wrels])
theorem rrelations_ev (l : List S46) (hl : (l.map relW).sum ≤ 1048576) : Ev (fun k => depotref24_relations.f k l) (l.all formM) := by
  have hlen := row_length l
  have key : ∀ (d i : Nat), i + d = l.length → Ev (fun k => depotref24_relations.l0 k l (i : Int)) ((l.drop i).all formM) := by
    intro d
    induction d with
    | zero =>
      intro i hi
      rw [List.drop_of_length_le (by omega)]
      refine Ev.step (f := fun _ => some true) (fun k => ?_) (Ev.now _)
      simp only [depotref24_relations.l0]
      rw [if_neg (by omega)]
    | succ d ih =>
      intro i hi
      have hi' : i < l.length := by omega
      have ew : wrap64 ((i : Int) + 1) = ((i + 1 : Nat) : Int) := by rw [wrap_id (by omega) (by omega)]; omega
      have hx := relW_mem (List.getElem_mem hi')
      have hf := rform_ev l[i] (by omega)
      rw [drop_at hi', List.all_cons]
      refine Ev.step (f := fun k => (depotref22_Formed.f k l[i].f0 l[i].f1 l[i].f2).bind fun t => if t = true then depotref24_relations.l0 k l ((i + 1 : Nat) : Int) else some false) (fun k => ?_) (Ev.bind hf ?_)
      · simp only [depotref24_relations.l0, rt_at hi', ew]
        rw [if_pos (by omega), if_pos (by omega)]
      · cases formM l[i] with
        | true => simp only [if_true, Bool.true_and]; exact ih (i + 1) (by omega)
        | false => simp only [Bool.false_eq_true, if_false, Bool.false_and]; exact Ev.now _
  unfold depotref24_relations.f
  exact key l.length 0 (by omega)
theorem rreqform_ev (L : List (List S46)) (F : List S46) (W : List S48) (h : reqW L F W ≤ 1048576) : Ev (fun k => depotref24_Formed.f k L F W) (reqOk L F W) := by
  obtain ⟨h1, h2, h3, h4, h5⟩ := req_parts h
  have hRF := rrelations_ev F (by omega)
  have hWx : ∀ x ∈ wrels W, relW x ≤ 140737488351232 := fun x q => by have := relW_mem q; omega
  have hLx : ∀ m ∈ L, (m.map relW).sum ≤ 1048576 := fun m q => by
    have h6 := rowW_mem q
    have h7 : rowW m = (m.map relW).sum + 1 := rfl
    omega
  have hW : W.length ≤ 1048576 := by omega
  have hL : L.length ≤ 1048576 := by omega
  clear h h1 h2 h3 h4 h5
  have wish : ∀ (d i : Nat), i + d = W.length → Ev (fun k => depotref24_Formed.l1 k (i : Int) L F W) ((wrels (W.drop i)).all formM && F.all formM) := by
    intro d
    induction d with
    | zero =>
      intro i hi
      rw [List.drop_of_length_le (by omega)]
      refine Ev.step (f := fun k => (depotref24_relations.f k F).bind fun t => some t) (fun k => ?_) (Ev.bind hRF ?_)
      · simp only [depotref24_Formed.l1]
        rw [if_neg (by omega)]
      · simp only [wrels, List.map_nil, List.all_nil, Bool.true_and]
        exact Ev.now _
    | succ d ih =>
      intro i hi
      have hi' : i < W.length := by omega
      have ew : wrap64 ((i : Int) + 1) = ((i + 1 : Nat) : Int) := by rw [wrap_id (by omega) (by omega)]; omega
      have hf := rform_ev W[i].f1 (hWx _ (wrels_at hi'))
      rw [drop_at hi']
      simp only [wrels, List.map_cons, List.all_cons]
      refine Ev.step (f := fun k => (depotref22_Formed.f k W[i].f1.f0 W[i].f1.f1 W[i].f1.f2).bind fun t => if t = true then depotref24_Formed.l1 k ((i + 1 : Nat) : Int) L F W else some false) (fun k => ?_) (Ev.bind hf ?_)
      · simp only [depotref24_Formed.l1, wt_at hi', ew]
        rw [if_pos (by omega), if_pos (by omega)]
      · cases formM W[i].f1 with
        | true => simp only [if_true, Bool.true_and]; exact ih (i + 1) (by omega)
        | false => simp only [Bool.false_eq_true, if_false, Bool.false_and]; exact Ev.now _
  have ins : ∀ (d i : Nat), i + d = L.length → Ev (fun k => depotref24_Formed.l0 k (i : Int) L F W) (okL (L.drop i) && ((wrels W).all formM && F.all formM)) := by
    intro d
    induction d with
    | zero =>
      intro i hi
      rw [List.drop_of_length_le (by omega)]
      have hw := wish W.length 0 (by omega)
      rw [List.drop_zero] at hw
      refine Ev.step (f := _) (fun k => ?_) (by simpa [okL] using hw)
      simp only [depotref24_Formed.l0]
      rw [if_neg (by omega)]
    | succ d ih =>
      intro i hi
      have hi' : i < L.length := by omega
      have ew : wrap64 ((i : Int) + 1) = ((i + 1 : Nat) : Int) := by rw [wrap_id (by omega) (by omega)]; omega
      have hf := rrelations_ev L[i] (hLx _ (List.getElem_mem hi'))
      rw [drop_at hi', okL, List.all_cons]
      by_cases h0 : L[i] = []
      · refine Ev.step (f := fun _ => some false) (fun k => ?_) ?_
        · simp only [depotref24_Formed.l0, rd_at hi', h0, List.length_nil]
          rw [if_pos (by omega), if_pos (by omega), if_pos (by rfl)]
        · rw [h0]
          exact Ev.now _
      · have hz : ¬ ((L[i].length : Nat) : Int) = 0 := by
          have : L[i].length ≠ 0 := fun q => h0 (List.eq_nil_of_length_eq_zero q)
          omega
        have hne : (!L[i].isEmpty) = true := by simpa using h0
        rw [hne, Bool.true_and]
        refine Ev.step (f := fun k => (depotref24_relations.f k L[i]).bind fun t => if t = true then depotref24_Formed.l0 k ((i + 1 : Nat) : Int) L F W else some false) (fun k => ?_) (Ev.bind hf ?_)
        · simp only [depotref24_Formed.l0, rd_at hi', ew]
          rw [if_pos (by omega), if_pos (by omega), if_neg hz]
        · cases L[i].all formM with
          | true => simp only [if_true, Bool.true_and]; exact ih (i + 1) (by omega)
          | false => simp only [Bool.false_eq_true, if_false, Bool.false_and]; exact Ev.now _
  unfold depotref24_Formed.f reqOk
  have := ins L.length 0 (by omega)
  rw [List.drop_zero] at this
  exact this
end Go.Proofs.YtmocooihkobdjaaDoor.Model
end
section
set_option linter.unusedVariables false
set_option linter.unusedSimpArgs false
namespace Go.Proofs.YtmocooihkobdjaaDoor.Model
open Go.RowKit Go.Proofs.YtmocooihkobdjaaDoor.E Go.Proofs.YtmocooihkobdjaaDoorW.PrintWords Go.Proofs.YtmocooihkobdjaaDoorW.PrintLast Go.Proofs.YtmocooihkobdjaaDoor.Ver
theorem copyrels_ev (l : List S46) (h : l.length ≤ 4000000) : Ev (fun k => depotref00_CopyRels.f k l) l := by
  have key : ∀ (d i : Nat), i + d = l.length → ∀ acc : List S46, acc.length = i → Ev (fun k => depotref00_CopyRels.l0 k l acc (i : Int)) (acc ++ l.drop i) := by
    intro d
    induction d with
    | zero =>
      intro i hi acc ha
      rw [List.drop_of_length_le (by omega), List.append_nil]
      refine Ev.step (f := fun _ => some acc) (fun k => ?_) (Ev.now _)
      simp only [depotref00_CopyRels.l0]
      rw [if_neg (by omega)]
    | succ d ih =>
      intro i hi acc ha
      have hi' : i < l.length := by omega
      have ew : wrap64 ((i : Int) + 1) = ((i + 1 : Nat) : Int) := by rw [wrap_id (by omega) (by omega)]; omega
      have hn := ih (i + 1) (by omega) (acc ++ [l[i]]) (by simp [ha])
      rw [drop_at hi', show acc ++ l[i] :: l.drop (i + 1) = (acc ++ [l[i]]) ++ l.drop (i + 1) by simp]
      refine Ev.step (f := _) (fun k => ?_) hn
      simp only [depotref00_CopyRels.l0, rt_at hi', ew]
      rw [if_pos (by omega), if_pos (by omega), if_pos (by omega)]
  have := key l.length 0 (by omega) [] rfl
  simpa [depotref00_CopyRels.f] using this
theorem copylists_ev (L : List (List S46)) (h : L.length ≤ 4000000) (hm : ∀ m ∈ L, m.length ≤ 4000000) : Ev (fun k => depotref00_CopyLists.f k L) L := by
  have key : ∀ (d i : Nat), i + d = L.length → ∀ acc : List (List S46), acc.length = i → Ev (fun k => depotref00_CopyLists.l0 k L acc (i : Int)) (acc ++ L.drop i) := by
    intro d
    induction d with
    | zero =>
      intro i hi acc ha
      rw [List.drop_of_length_le (by omega), List.append_nil]
      refine Ev.step (f := fun _ => some acc) (fun k => ?_) (Ev.now _)
      simp only [depotref00_CopyLists.l0]
      rw [if_neg (by omega)]
    | succ d ih =>
      intro i hi acc ha
      have hi' : i < L.length := by omega
      have ew : wrap64 ((i : Int) + 1) = ((i + 1 : Nat) : Int) := by rw [wrap_id (by omega) (by omega)]; omega
      have hn := ih (i + 1) (by omega) (acc ++ [L[i]]) (by simp [ha])
      rw [drop_at hi', show acc ++ L[i] :: L.drop (i + 1) = (acc ++ [L[i]]) ++ L.drop (i + 1) by simp]
      refine Ev.step (f := fun k => (depotref00_CopyRels.f k L[i]).bind fun t => if acc.length < 5864062014805 then depotref00_CopyLists.l0 k L (acc ++ [t]) ((i + 1 : Nat) : Int) else none) (fun k => ?_) (Ev.bind (copyrels_ev L[i] (hm _ (List.getElem_mem hi'))) ?_)
      · simp only [depotref00_CopyLists.l0, rd_at hi', ew]
        rw [if_pos (by omega), if_pos (by omega)]
      · simp only [if_pos (show acc.length < 5864062014805 by omega)]
        exact hn
  have := key L.length 0 (by omega) [] rfl
  simpa [depotref00_CopyLists.f] using this
theorem copyreq_ev (L : List (List S46)) (F : List S46) (W : List S48) (h : reqW L F W ≤ 1048576) : Ev (fun k => depotref00_CopyRequest.f k L F W) (L, F, W) := by
  obtain ⟨h1, h2, h3, h4, h5⟩ := req_parts h
  have hC := copylists_ev L (by omega) (fun m hm => by have := row_len hm; omega)
  have hR := copyrels_ev F (by omega)
  have hW : W.length ≤ 4000000 := by omega
  clear h h1 h2 h3 h4 h5
  have key : ∀ (d i : Nat), i + d = W.length → ∀ acc : List S48, acc = W.take i → Ev (fun k => depotref00_CopyRequest.l0 k acc (i : Int) L F W) (L, F, W) := by
    intro d
    induction d with
    | zero =>
      intro i hi acc ha
      obtain rfl : i = W.length := by omega
      rw [List.take_length] at ha
      subst ha
      refine Ev.step (f := fun k => (depotref00_CopyLists.f k L).bind fun t => (depotref00_CopyRels.f k F).bind fun u => some (t, u, acc)) (fun k => ?_) (Ev.bind hC (Ev.bind hR (Ev.now _)))
      simp only [depotref00_CopyRequest.l0]
      rw [if_neg (by omega)]
    | succ d ih =>
      intro i hi acc ha
      have hi' : i < W.length := by omega
      have ew : wrap64 ((i : Int) + 1) = ((i + 1 : Nat) : Int) := by rw [wrap_id (by omega) (by omega)]; omega
      have hlen : acc.length = i := by rw [ha, List.length_take]; omega
      have hn := ih (i + 1) (by omega) (acc ++ [W[i]]) (by rw [List.take_succ_eq_append_getElem hi', ha])
      refine Ev.step (f := _) (fun k => ?_) hn
      simp only [depotref00_CopyRequest.l0, wt_at hi', ew]
      rw [if_pos (by omega), if_pos (by omega), if_pos (by omega)]
  unfold depotref00_CopyRequest.f
  exact key W.length 0 (by omega) [] rfl
end Go.Proofs.YtmocooihkobdjaaDoor.Model
end
section
set_option linter.unusedVariables false
set_option linter.unusedSimpArgs false
namespace Go.Proofs.YtmocooihkobdjaaDoor.Model
open Go.RowKit Go.Proofs.YtmocooihkobdjaaDoor.E Go.Proofs.YtmocooihkobdjaaDoorW.PrintWords Go.Proofs.YtmocooihkobdjaaDoorW.PrintLast Go.Proofs.YtmocooihkobdjaaDoor.Ver
theorem samerels_self (l : List S46) (hl : l.length ≤ 140737488351232) : Ev (fun k => depotref00_SameRels.f k l l) true := by
  have key : ∀ (d i : Nat), i + d = l.length → Ev (fun k => depotref00_SameRels.l0 k l l (i : Int)) true := by
    intro d
    induction d with
    | zero =>
      intro i hi
      refine Ev.step (f := fun _ => some true) (fun k => ?_) (Ev.now _)
      simp only [depotref00_SameRels.l0]
      rw [if_neg (by omega)]
    | succ d ih =>
      intro i hi
      have ew : wrap64 ((i : Int) + 1) = ((i + 1 : Nat) : Int) := by rw [wrap_id (by omega) (by omega)]; omega
      refine Ev.step (f := fun k => depotref00_SameRels.l0 k l l ((i + 1 : Nat) : Int)) (fun k => ?_) (ih (i + 1) (by omega))
      simp only [depotref00_SameRels.l0, ew, if_pos (show (i : Int) < l.length by omega), if_pos (show (0 : Int) ≤ i by omega)]
      simp
  unfold depotref00_SameRels.f
  simp only [if_true]
  exact key l.length 0 (by omega)
theorem samelists_self (l : List (List S46)) (hl : l.length ≤ 140737488351232) (hin : ∀ m ∈ l, m.length ≤ 140737488351232) : Ev (fun k => depotref00_SameLists.f k l l) true := by
  have key : ∀ (d i : Nat), i + d = l.length → Ev (fun k => depotref00_SameLists.l0 k l l (i : Int)) true := by
    intro d
    induction d with
    | zero =>
      intro i hi
      refine Ev.step (f := fun _ => some true) (fun k => ?_) (Ev.now _)
      simp only [depotref00_SameLists.l0]
      rw [if_neg (by omega)]
    | succ d ih =>
      intro i hi
      have ew : wrap64 ((i : Int) + 1) = ((i + 1 : Nat) : Int) := by rw [wrap_id (by omega) (by omega)]; omega
      refine Ev.step (f := fun k => (depotref00_SameRels.f k (rd_L3 l (i : Int)) (rd_L3 l (i : Int))).bind fun t198 => (if t198 = true then (depotref00_SameLists.l0 k l l ((i + 1 : Nat) : Int)) else (some false))) (fun k => ?_) ?_
      · simp only [depotref00_SameLists.l0, ew, if_pos (show (i : Int) < l.length by omega), if_pos (show (0 : Int) ≤ i by omega)]
      · have hi' : i < l.length := by omega
        rw [rd_at hi']
        refine Ev.bind (samerels_self _ (hin _ (List.getElem_mem hi'))) ?_
        simp only [if_true]
        exact ih (i + 1) (by omega)
  unfold depotref00_SameLists.f
  simp only [if_true]
  exact key l.length 0 (by omega)
theorem samewishes_self (l : List S48) (hl : l.length ≤ 140737488351232) : Ev (fun k => depotref00_SameWishes.f k l l) true := by
  have key : ∀ (d i : Nat), i + d = l.length → Ev (fun k => depotref00_SameWishes.l0 k l l (i : Int)) true := by
    intro d
    induction d with
    | zero =>
      intro i hi
      refine Ev.step (f := fun _ => some true) (fun k => ?_) (Ev.now _)
      simp only [depotref00_SameWishes.l0]
      rw [if_neg (by omega)]
    | succ d ih =>
      intro i hi
      have ew : wrap64 ((i : Int) + 1) = ((i + 1 : Nat) : Int) := by rw [wrap_id (by omega) (by omega)]; omega
      refine Ev.step (f := fun k => depotref00_SameWishes.l0 k l l ((i + 1 : Nat) : Int)) (fun k => ?_) (ih (i + 1) (by omega))
      simp only [depotref00_SameWishes.l0, ew, if_pos (show (i : Int) < l.length by omega), if_pos (show (0 : Int) ≤ i by omega)]
      simp
  unfold depotref00_SameWishes.f
  simp only [if_true]
  exact key l.length 0 (by omega)
theorem samereq_self (L : List (List S46)) (F : List S46) (W : List S48) (hL : L.length ≤ 4000000) (hin : ∀ m ∈ L, m.length ≤ 4000000) (hF : F.length ≤ 4000000) (hW : W.length ≤ 4000000) : Ev (fun k => depotref00_SameRequest.f k L F W L F W) true := by
  unfold depotref00_SameRequest.f
  refine Ev.bind (samelists_self L (by omega) (fun m hm => by have := hin m hm; omega)) ?_
  simp only [if_true]
  refine Ev.bind (samerels_self F (by omega)) ?_
  simp only [if_true]
  exact Ev.bind (samewishes_self W (by omega)) (Ev.now _)
end Go.Proofs.YtmocooihkobdjaaDoor.Model
end
section
set_option linter.unusedVariables false
set_option linter.unusedSimpArgs false
namespace Go.Proofs.YtmocooihkobdjaaDoor.Model
open Go.RowKit Go.Proofs.YtmocooihkobdjaaDoor.E Go.Proofs.YtmocooihkobdjaaDoorW.PrintWords Go.Proofs.YtmocooihkobdjaaDoorW.PrintLast Go.Proofs.YtmocooihkobdjaaDoor.Ver
theorem flat_len (L : List (List S46)) : L.flatten.length ≤ (L.map rowW).sum := by
  have h1 := flat_weigh L
  have h2 := row_length L.flatten
  omega
theorem four_small (p q r s : Nat) (h : p + q + r + s ≤ 1048576) : p ≤ 1048576 ∧ r ≤ 1048576 ∧ s ≤ 1048576 := by omega
theorem mem_small (a b : Nat) (h : b + 1 ≤ 1048576) (h2 : a ≤ b) : a ≤ 1048576 := by omega
theorem req_small {L : List (List S46)} {F : List S46} {W : List S48} (h : reqW L F W ≤ 1048576) :
    (∀ o ∈ L, o.length ≤ 1048576) ∧ L.length ≤ 1048576 ∧ F.length ≤ 1048576 ∧ W.length ≤ 1048576 :=
  have ⟨h1, h2, h3, h4, h5⟩ := req_parts h
  ⟨fun o ho => Nat.le_trans (row_len ho) (mem_small _ _ h1 (flat_len L)), four_small _ _ _ _ h4⟩
def joinOk (L : List (List S46)) (F : List S46) (W : List S48) (L2 : List (List S46)) (F2 : List S46) (W2 : List S48) : Bool := reqOk L F W && reqOk L2 F2 W2
def joined (L : List (List S46)) (F : List S46) (W : List S48) (L2 : List (List S46)) (F2 : List S46) (W2 : List S48) : List (List S46) × List S46 × List S48 × Int :=
  if joinOk L F W L2 F2 W2 = true then (L ++ L2, F ++ F2, W ++ W2, 0) else ([], [], [], 1)
theorem join_ev (L : List (List S46)) (F : List S46) (W : List S48) (L2 : List (List S46)) (F2 : List S46) (W2 : List S48) (h : reqW L F W ≤ 1048576) (h2 : reqW L2 F2 W2 ≤ 1048576) : Ev (fun k => request_Join.f k L F W L2 F2 W2) (joined L F W L2 F2 W2) := by
  obtain ⟨a0, a1, a2, a3⟩ := req_small h
  obtain ⟨b0, b1, b2, b3⟩ := req_small h2
  have e1 := reqform_ev L F W h
  have e2 := reqform_ev L2 F2 W2 h2
  clear h h2
  unfold request_Join.f joined joinOk
  refine Ev.bind e1 ?_
  cases reqOk L F W with
  | false => simp only [Bool.false_eq_true, if_false, Bool.false_and]; exact Ev.now _
  | true =>
    simp only [if_true, Bool.true_and]
    refine Ev.bind e2 ?_
    cases reqOk L2 F2 W2 with
    | false => simp only [Bool.false_eq_true, if_false]; exact Ev.now _
    | true =>
      simp only [if_true]
      rw [if_pos ⟨by omega, by omega, by omega, fun o ho => by rcases List.mem_append.1 ho with q | q; (have := a0 o q; omega); (have := b0 o q; omega)⟩]
      exact Ev.now _
theorem rjoin_ev (L : List (List S46)) (F : List S46) (W : List S48) (L2 : List (List S46)) (F2 : List S46) (W2 : List S48) (h : reqW L F W ≤ 1048576) (h2 : reqW L2 F2 W2 ≤ 1048576) : Ev (fun k => depotref24_Join.f k L F W L2 F2 W2) (joined L F W L2 F2 W2) := by
  obtain ⟨a0, a1, a2, a3⟩ := req_small h
  obtain ⟨b0, b1, b2, b3⟩ := req_small h2
  have e1 := rreqform_ev L F W h
  have e2 := rreqform_ev L2 F2 W2 h2
  have c1 := copyreq_ev L F W h
  have c2 := copyreq_ev L2 F2 W2 h2
  clear h h2
  have bad : Ev (fun k => depotref24_Join.j0 k true L F W L2 F2 W2) ([], [], [], 1) := Ev.step (f := fun _ => some ([], [], [], 1)) (fun k => by simp only [depotref24_Join.j0, if_true]) (Ev.now _)
  have good : Ev (fun k => depotref24_Join.j0 k false L F W L2 F2 W2) (L ++ L2, F ++ F2, W ++ W2, 0) := by
    refine Ev.step (f := fun k => (depotref00_CopyRequest.f k L F W).bind fun x => (depotref00_CopyRequest.f k L2 F2 W2).bind fun y => (if x.1.length + y.1.length < 5864062014805 then (if x.2.1.length + y.2.1.length < 3518437208883 then (if x.2.2.length + y.2.2.length < 2932031007402 then (some ((x.1 ++ y.1), (x.2.1 ++ y.2.1), (x.2.2 ++ y.2.2), 0)) else (none)) else (none)) else (none))) (fun k => ?_) ?_
    · simp only [depotref24_Join.j0, Bool.false_eq_true, if_false]
    · refine Ev.bind c1 (Ev.bind c2 ?_)
      simp only
      rw [if_pos (by omega), if_pos (by omega), if_pos (by omega)]
      exact Ev.now _
  unfold depotref24_Join.f joined joinOk
  refine Ev.bind e1 ?_
  cases reqOk L F W with
  | false => simp only [Bool.false_eq_true, if_false, Bool.false_and]; exact bad
  | true =>
    simp only [if_true, Bool.true_and]
    refine Ev.bind e2 ?_
    cases reqOk L2 F2 W2 with
    | false => simp only [Bool.false_eq_true, if_false, Bool.not_false]; exact bad
    | true => simp only [if_true, Bool.not_true]; exact good
theorem reqjoins_law (L : List (List S46)) (F : List S46) (W : List S48) (L2 : List (List S46)) (F2 : List S46) (W2 : List S48) (h : reqW L F W ≤ 1048576) (h2 : reqW L2 F2 W2 ≤ 1048576) : Ev (fun k => depotlaw24_RequestJoins.f k L F W L2 F2 W2) true := by
  have j1 := join_ev L F W L2 F2 W2 h h2
  have j2 := rjoin_ev L F W L2 F2 W2 h h2
  have c1 := copyreq_ev L F W h
  have c2 := copyreq_ev L2 F2 W2 h2
  obtain ⟨a0, a1, a2, a3⟩ := req_small h
  obtain ⟨b0, b1, b2, b3⟩ := req_small h2
  clear h h2
  unfold depotlaw24_RequestJoins.f
  refine Ev.bind c1 (Ev.bind c2 (Ev.bind j1 (Ev.bind j2 ?_)))
  simp only [if_true]
  have hs : Ev (fun k => depotref00_SameRequest.f k (joined L F W L2 F2 W2).1 (joined L F W L2 F2 W2).2.1 (joined L F W L2 F2 W2).2.2.1 (joined L F W L2 F2 W2).1 (joined L F W L2 F2 W2).2.1 (joined L F W L2 F2 W2).2.2.1) true := by
    unfold joined
    split
    · exact samereq_self _ _ _ (by rw [List.length_append]; omega) (fun m hm => by rcases List.mem_append.1 hm with q | q; (have := a0 m q; omega); (have := b0 m q; omega)) (by rw [List.length_append]; omega) (by rw [List.length_append]; omega)
    · exact samereq_self _ _ _ (by simp) (fun m hm => by cases hm) (by simp) (by simp)
  exact Ev.bind hs (Ev.now _)
end Go.Proofs.YtmocooihkobdjaaDoor.Model
end
section
namespace Go.Proofs.YtmocooihkobdjaaDoor.Open
open Go Go.RowKit Go.Deep Go.Proofs.YtmocooihkobdjaaDoorW.PrintWords
def Opens {H α : Type} (enc : TypeId × Value → H) (P : Program) (W : World) (t : TypeId) (d : Kd α) (Q : α → DataW H → Prop) : Prop :=
  ∀ fuel cs x, DataW.trod enc P W 0 (fun _ => true) true fuel t cs = some x → ∃ y, d.K W y cs ∧ Q y x.1
theorem list_of {α : Type} {p : Nat → α → Prop} : ∀ n, (∀ i, i < n → ∃ y, p i y) → ∃ l : List α, l.length = n ∧ ∀ i y, l[i]? = some y → p i y := by
  intro n
  induction n with
  | zero => intro _; exact ⟨[], rfl, fun i y h => by simp at h⟩
  | succ n ih =>
    intro h
    obtain ⟨l, h1, h2⟩ := ih (fun i hi => h i (by omega))
    obtain ⟨y, hy⟩ := h n (by omega)
    refine ⟨l ++ [y], by simp [h1], fun i z hz => ?_⟩
    by_cases hi : i < l.length
    · rw [List.getElem?_append_left hi] at hz
      exact h2 i z hz
    · rw [List.getElem?_append_right (by omega)] at hz
      by_cases e : i - l.length = 0
      · rw [e] at hz
        obtain rfl : y = z := by simpa using hz
        obtain rfl : i = n := by omega
        exact hy
      · obtain ⟨m, hm⟩ : ∃ m, i - l.length = m + 1 := ⟨i - l.length - 1, by omega⟩
        rw [hm] at hz
        simp at hz
def SliceQ {H α : Type} (Q : α → DataW H → Prop) (l : List α) (x : DataW H) : Prop :=
  (x = .nil ∧ l = []) ∨ ∃ elems spare, x = .slice elems spare ∧ elems.length = l.length ∧ ∀ (i : Nat) (a : α), l[i]? = some a → ∃ b, elems[i]? = some b ∧ Q a b
section
variable {H α : Type} {enc : TypeId × Value → H} {P : Program} {W : World} {t e : TypeId} {d : Kd α} {Q : α → DataW H → Prop}
theorem slice_cells (ht : P.underlying t = some (.slice e)) (hc : P.cellsOf e = d.sz) (ho : Opens enc P W e d Q) {fuel : Nat} {cs : List Value} {x : DataW H × List MemPlace}
    (h : DataW.trod enc P W 0 (fun _ => true) true fuel t cs = some x) : ∃ (l : List α) (A : Option Addr) (c : Nat), cs = [.slice A l.length c] ∧ l.length ≤ c ∧ d.C W A l.length l ∧ SliceQ Q l x.1 := by
  rcases DataW.trod_slice ht h with ⟨rfl, rfl⟩ | ⟨a, len, cap, elems, rest, n, _, rfl, rfl, _, hl, hm, hlen, hel, _, _⟩
  · exact ⟨[], none, 0, rfl, Nat.le_refl _, ⟨rfl, by simp, fun h => by simp at h⟩, .inl ⟨rfl, rfl⟩⟩
  · have each : ∀ i, i < len → ∃ y, ∃ cs', W.cells? 0 (a.add (i * P.cellsOf e)) (P.cellsOf e) = some cs' ∧ d.K W y cs' ∧ ∃ b, (elems.map (·.1))[i]? = some b ∧ Q y b := by
      intro i hi
      have h1 := hel i hi
      rw [List.getElem?_eq_getElem (by omega)] at h1
      obtain ⟨cs', h2, h3⟩ := Option.bind_eq_some_iff.1 h1
      obtain ⟨y, h4, h5⟩ := ho _ _ _ h3
      exact ⟨y, cs', h2, h4, _, by rw [List.getElem?_map, List.getElem?_eq_getElem (by omega)]; rfl, h5⟩
    obtain ⟨l, l1, l2⟩ := list_of len each
    have hmax : cap ≤ 9223372036854775807 := by unfold maxLen at hm; omega
    subst l1
    refine ⟨l, some a, cap, rfl, hl, ⟨rfl, by omega, fun _ => ⟨a, rfl, fun j p hj => ?_⟩⟩, .inr ⟨_, _, rfl, by rw [List.length_map, hlen], fun i y hy => ?_⟩⟩
    · obtain ⟨cs', c1, c2, _⟩ := l2 j p hj
      obtain ⟨_, c3, c4⟩ := World.cells?_some c1
      refine ⟨cs', by rw [c3, hc], c2, fun i u hu => ?_⟩
      have hi : i < P.cellsOf e := by
        rw [← c3]
        exact (List.getElem?_eq_some_iff.1 hu).1
      have := c4 i hi
      rw [Deep.add_add, hu] at this
      rw [← hc]
      exact this
    · obtain ⟨_, _, _, b, b1, b2⟩ := l2 i y hy
      exact ⟨b, b1, b2⟩
theorem opens_slice (ht : P.underlying t = some (.slice e)) (hc : P.cellsOf e = d.sz) (ho : Opens enc P W e d Q) : Opens enc P W t (Kd.slice e d) (SliceQ Q) := by
  intro fuel cs x h
  obtain ⟨l, A, c, h1, h2, h3, h4⟩ := slice_cells ht hc ho h
  exact ⟨l, ⟨A, c, h1, h2, h3⟩, h4⟩
theorem slice_sum {bulk : DataW H → Nat} {all : List (DataW H) → Nat} (h0 : bulk .nil = 1) (h1 : ∀ e s, bulk (.slice e s) = all e + all s + 1) (h3 : ∀ d r, all (d :: r) = bulk d + all r)
    {m : α → Nat} (hm : ∀ a b, Q a b → m a ≤ bulk b) {l : List α} {x : DataW H} (h : SliceQ Q l x) : (l.map m).sum + 1 ≤ bulk x := by
  have key : ∀ (l : List α) (elems : List (DataW H)), elems.length = l.length → (∀ (i : Nat) (a : α), l[i]? = some a → ∃ b, elems[i]? = some b ∧ Q a b) → (l.map m).sum ≤ all elems := by
    intro l
    induction l with
    | nil => intro elems _ _; simp
    | cons a l ih =>
      intro elems hl hq
      cases elems with
      | nil => simp at hl
      | cons b elems =>
        rw [h3, List.map_cons, List.sum_cons]
        obtain ⟨b', hb', hab⟩ := hq 0 a rfl
        obtain rfl : b = b' := by simpa using hb'
        have := hm _ _ hab
        have := ih elems (by simpa using hl) (fun i a' h' => hq (i + 1) a' h')
        omega
  rcases h with ⟨rfl, rfl⟩ | ⟨elems, spare, rfl, hl, hq⟩
  · rw [h0]; simp
  · have := key l elems hl hq
    rw [h1]
    omega
end
end Go.Proofs.YtmocooihkobdjaaDoor.Open
end
section
namespace Go.Proofs.YtmocooihkobdjaaDoor.Open
open Go Go.RowKit Go.Deep Go.Proofs.YtmocooihkobdjaaDoorW.PrintWords Go.Proofs.YtmocooihkobdjaaDoor.E Go.Proofs.YtmocooihkobdjaaDoor.Model
section
variable {H : Type} {enc : TypeId × Value → H} {W : World}
theorem three_of {α : Type} {cs : List α} (h : cs.length = 3) : ∃ a b c, cs = [a, b, c] := by
  match cs, h with
  | [a, b, c], _ => exact ⟨a, b, c, rfl⟩
theorem opens_rel : Opens enc Tryd.prog W 46 k46 (fun x d => d = .agg [.lit (.string x.f0.data.toList), .lit (.int .i64 x.f1), .lit (.string x.f2.data.toList)]) := by
  intro fuel cs x h
  obtain ⟨y0, y1, y2, n, rfl, hl, h0, h1, h2⟩ := trod_struct3 Tryd.underlying46 h
  obtain ⟨s0, c0, rfl, _⟩ := DataW.trod_string Tryd.underlying9 h0
  obtain ⟨z, c1, rfl, _⟩ := DataW.trod_int Tryd.underlying3 h1
  obtain ⟨s2, c2, rfl, _⟩ := DataW.trod_string Tryd.underlying9 h2
  have eR : Tryd.prog.cellsOf 46 = 3 := by kernel_rfl
  have eS : Tryd.prog.cellsOf 9 = 1 := by kernel_rfl
  have eI : Tryd.prog.cellsOf 3 = 1 := by kernel_rfl
  simp only [eR, eS, eI] at hl c0 c1 c2
  clear h h0 h1 h2 eR eS eI
  obtain ⟨a, b, c, rfl⟩ := three_of hl
  simp only [List.drop_zero, List.drop_succ_cons, List.take_succ_cons, List.take_zero, List.cons.injEq, and_true] at c0 c1 c2
  subst c0 c1 c2
  exact ⟨⟨s0, z, s2⟩, k46_mk W ⟨s0, z, s2⟩, rfl⟩
theorem opens_row : Opens enc Tryd.prog W 23 (Kd.slice 46 k46) (SliceQ (fun (x : S46) (d : DataW H) => d = .agg [.lit (.string x.f0.data.toList), .lit (.int .i64 x.f1), .lit (.string x.f2.data.toList)])) :=
  opens_slice Tryd.underlying23 (by kernel_rfl) opens_rel
theorem rel_bulk (x : S46) (d : DataW H) (h : d = .agg [.lit (.string x.f0.data.toList), .lit (.int .i64 x.f1), .lit (.string x.f2.data.toList)]) : relW x ≤ Rows.uptoBulk d := by
  subst h
  simp only [Rows.uptoBulk, Rows.uptoBulkAll, Array.length_toList]
  have e0 : x.f0.data.size = x.f0.size := rfl
  have e2 : x.f2.data.size = x.f2.size := rfl
  unfold relW
  omega
theorem row_bulk (l : List S46) (d : DataW H) (h : SliceQ (fun (x : S46) (d : DataW H) => d = .agg [.lit (.string x.f0.data.toList), .lit (.int .i64 x.f1), .lit (.string x.f2.data.toList)]) l d) : rowW l ≤ Rows.uptoBulk d :=
  slice_sum (all := Rows.uptoBulkAll) (by simp only [Rows.uptoBulk]) (fun e s => by simp only [Rows.uptoBulk]) (fun d r => by simp only [Rows.uptoBulkAll]) rel_bulk h
end
end Go.Proofs.YtmocooihkobdjaaDoor.Open
end
section
namespace Go.Proofs.YtmocooihkobdjaaDoor.Open
open Go Go.RowKit Go.Deep Go.WideShapes Go.ChangeShapes Go.Proofs.YtmocooihkobdjaaDoorW.PrintWords Go.Proofs.YtmocooihkobdjaaDoor.E Go.Proofs.YtmocooihkobdjaaDoor.Model
section
variable {H : Type} {enc : TypeId × Value → H} {W : World}
theorem opens_wish : Opens enc Tryd.prog W 48 k48 (fun x d => d = .agg [.lit (.bool x.f0), .agg [.lit (.string x.f1.f0.data.toList), .lit (.int .i64 x.f1.f1), .lit (.string x.f1.f2.data.toList)]]) := by
  intro fuel cs x h
  obtain ⟨y0, y1, n, rfl, hl, h0, h1⟩ := trod_struct2 Tryd.underlying48 h
  obtain ⟨b, c0, rfl⟩ := DataW.trod_bool Tryd.underlying4 h0
  obtain ⟨r, kr, rfl'⟩ := opens_rel _ _ _ h1
  have eW : Tryd.prog.cellsOf 48 = 4 := by kernel_rfl
  have eR : Tryd.prog.cellsOf 46 = 3 := by kernel_rfl
  have eB : Tryd.prog.cellsOf 4 = 1 := by kernel_rfl
  simp only [eW, eR, eB] at hl c0 kr
  clear h h0 h1 eW eR eB
  obtain ⟨a, cs, rfl⟩ : ∃ a r, cs = a :: r := by
    cases cs with
    | nil => simp at hl
    | cons a r => exact ⟨a, r, rfl⟩
  simp only [List.drop_zero, List.drop_succ_cons, List.take_succ_cons, List.take_zero, List.cons.injEq, and_true] at c0 kr
  subst c0
  have e3 : cs.take 3 = cs := List.take_of_length_le (by simp only [List.length_cons] at hl; omega)
  rw [e3] at kr
  exact ⟨⟨b, r⟩, ⟨[.bool b], cs, rfl, rfl, kr⟩, by show DataW.agg [_, y1.1] = _; rw [rfl']⟩
theorem wish_bulk (x : S48) (d : DataW H) (h : d = .agg [.lit (.bool x.f0), .agg [.lit (.string x.f1.f0.data.toList), .lit (.int .i64 x.f1.f1), .lit (.string x.f1.f2.data.toList)]]) : relW x.f1 ≤ Rows.uptoBulk d := by
  subst h
  simp only [Rows.uptoBulk, Rows.uptoBulkAll, Array.length_toList]
  have e0 : x.f1.f0.data.size = x.f1.f0.size := rfl
  have e2 : x.f1.f2.data.size = x.f1.f2.size := rfl
  unfold relW
  omega
theorem reqThree : Tryd.prog.cellsOf 26 = 3 := by kernel_rfl
set_option maxRecDepth 100000 in
theorem open_req {r : Reach} {b0 : Nat} {v : Value} {d : DataW H} {p : List MemPlace} (hv : Value.okWide Tryd.prog W r b0 26 v) (h : DataW.Trod enc Tryd.prog W 0 (fun _ => true) true 26 v d p) :
    ∃ (L : List (List S46)) (F : List S46) (Wi : List S48) (A0 A1 A2 : Option Addr) (c0 c1 c2 : Nat), v = .agg #[.slice A0 L.length c0, .slice A1 F.length c1, .slice A2 Wi.length c2] ∧
      L.length ≤ c0 ∧ F.length ≤ c1 ∧ Wi.length ≤ c2 ∧ Kd.C (Kd.slice 46 k46) W A0 L.length L ∧ Kd.C k46 W A1 F.length F ∧ Kd.C k48 W A2 Wi.length Wi ∧ reqW L F Wi ≤ Rows.uptoBulk d := by
  obtain ⟨u0, u1, u2, z0, z1, z2, n, rfl, rfl, rfl, t0, t1, t2⟩ := Joins.open_agg3 Tryd.underlying26 (by kernel_rfl) reqThree hv h
  obtain ⟨L, A0, c0, e0, l0, k0, q0⟩ := slice_cells Tryd.underlying22 (d := Kd.slice 46 k46) (by kernel_rfl) opens_row t0
  obtain ⟨F, A1, c1, e1, l1, k1, q1⟩ := slice_cells Tryd.underlying23 (d := k46) (by kernel_rfl) opens_rel t1
  obtain ⟨Wi, A2, c2, e2, l2, k2, q2⟩ := slice_cells Tryd.underlying24 (d := k48) (by kernel_rfl) opens_wish t2
  have b0 : rowsW L ≤ Rows.uptoBulk z0.1 := slice_sum (all := Rows.uptoBulkAll) (by simp only [Rows.uptoBulk]) (fun e s => by simp only [Rows.uptoBulk]) (fun d r => by simp only [Rows.uptoBulkAll]) row_bulk q0
  have b1 : rowW F ≤ Rows.uptoBulk z1.1 := slice_sum (all := Rows.uptoBulkAll) (by simp only [Rows.uptoBulk]) (fun e s => by simp only [Rows.uptoBulk]) (fun d r => by simp only [Rows.uptoBulkAll]) rel_bulk q1
  have b2 : (Wi.map (fun x => relW x.f1)).sum + 1 ≤ Rows.uptoBulk z2.1 := slice_sum (all := Rows.uptoBulkAll) (by simp only [Rows.uptoBulk]) (fun e s => by simp only [Rows.uptoBulk]) (fun d r => by simp only [Rows.uptoBulkAll]) wish_bulk q2
  have b3 : rowW (wrels Wi) = (Wi.map (fun x => relW x.f1)).sum + 1 := by
    unfold rowW wrels
    rw [List.map_map]; rfl
  simp only [List.cons.injEq, and_true] at e0 e1 e2
  subst e0 e1 e2
  refine ⟨L, F, Wi, A0, A1, A2, c0, c1, c2, rfl, l0, l1, l2, k0, k1, k2, ?_⟩
  simp only [Rows.uptoBulk, Rows.uptoBulkAll]
  unfold reqW
  omega
end
end Go.Proofs.YtmocooihkobdjaaDoor.Open
end
section
namespace Go.Proofs.YtmocooihkobdjaaDoor.requestJoins
open Go.ChangeShapes Go.WideShapes Go.ChangeAt Go.RowKit
open Go.ChangeMaps (open_string shut_string)
set_option linter.unusedVariables false
set_option linter.unusedSimpArgs false
theorem own : ownKnob Tryd.prog.godebug = none := by kernel_rfl
theorem laidOut : laidOutB Tryd.prog = true := by kernel_rfl
set_option maxRecDepth 100000 in
theorem contract (H : Type) (enc : TypeId × Value → H) (W : World) (base : Nat) (args : Array Value) (ds gs : List (DataW H)) (before : List MemPlace)
    (hval : ∀ (j : Nat) t v, Tryd.f4.params[j]? = some t → args[j]? = some v → Value.okWide Tryd.prog W .any base t v)
    (hW : DataW.Whole enc Tryd.prog Tryd.f4.params.toList Rows.requestJoinsSpec.vars false W args.toList ds gs before) (hL : laidMetH Tryd.prog Rows.requestJoinsUptoRow.laid W) (hc : Rows.uptoSmall H (ds ++ gs) = true) :
    Calls Tryd.prog 4 args W fun e W' => ∃ v, e = .returned v ∧ Rows.requestJoinsSpec.post enc Tryd.prog Tryd.f4 false true false false W args v W' := by
  have hW' := hW
  obtain ⟨p, q, hA0, hV, rfl, hfz, hnd⟩ := hW
  have hA : DataW.TrodAll enc Tryd.prog W 0 (fun _ => true) true Tryd.f4.params.toList args.toList ds p := hA0
  rw [Tryd.params4] at hA hval
  obtain ⟨v0, vs0, d0, ds0, p0, q0, hargs, rfl, rfl, h0, r0⟩ := trodAll_cons hA
  obtain ⟨v1, vs1, d1, ds1, p1, q1, hargs1, rfl, rfl, h1, r1⟩ := trodAll_cons r0
  obtain ⟨rfl, rfl, rfl⟩ := trodAll_nil r1
  subst hargs1
  obtain rfl : args = #[v0, v1] := Array.ext' hargs
  obtain ⟨rfl, rfl⟩ := trodVars_none hV
  have z := of_decide_eq_true hc
  simp only [List.append_nil, List.cons_append, List.nil_append, Rows.uptoBulkAll] at z
  have k0 := h0
  have lt0 : ∀ x ∈ p0, x.block < W.heap.size := by obtain ⟨m, hm⟩ := k0; exact DataW.trod_lt m _ _ _ hm
  obtain ⟨L0, F0, Wi0, A0_0, A0_1, A0_2, c0_0, c0_1, c0_2, rfl, l0_0, l0_1, l0_2, kd0_0, kd0_1, kd0_2, bk0⟩ := Open.open_req (hval 0 26 v0 rfl rfl) h0
  have w0 : Model.reqW L0 F0 Wi0 ≤ 1048576 := by omega
  have k1 := h1
  have lt1 : ∀ x ∈ p1, x.block < W.heap.size := by obtain ⟨m, hm⟩ := k1; exact DataW.trod_lt m _ _ _ hm
  obtain ⟨L1, F1, Wi1, A1_0, A1_1, A1_2, c1_0, c1_1, c1_2, rfl, l1_0, l1_1, l1_2, kd1_0, kd1_1, kd1_2, bk1⟩ := Open.open_req (hval 1 26 v1 rfl rfl) h1
  have w1 : Model.reqW L1 F1 Wi1 ≤ 1048576 := by omega
  clear hA0
  obtain ⟨k, hk⟩ := (Model.reqjoins_law L0 F0 Wi0 L1 F1 Wi1 w0 w1).rounds
  refine (E.depotlaw24_RequestJoins.calls k A0_0 c0_0 L0 A0_1 c0_1 F0 A0_2 c0_2 Wi0 A1_0 c1_0 L1 A1_1 c1_1 F1 A1_2 c1_2 Wi1 true W kd0_0 l0_0 kd0_1 l0_1 kd0_2 l0_2 kd1_0 l1_0 kd1_1 l1_1 kd1_2 l1_2 (GG_of hL) hk).mono fun e W' ⟨he, bel⟩ => ?_
  subst he
  exact ⟨_, rfl, _, _, _, [], _, [], hW', trodAll_mk1 (shut_bool Tryd.underlying4 _), (trodAll_cons_mk (Below.trod laidOut (by kernel_rfl) (of_decide_eq_true (by kernel_rfl)) k0 bel lt0) (trodAll_cons_mk (Below.trod laidOut (by kernel_rfl) (of_decide_eq_true (by kernel_rfl)) k1 bel lt1) trodAll_mk0)), rfl, bel.frame _, fun h => by cases h⟩
noncomputable def laidWorld (os : Os) : World :=
  { World.holding Tryd.prog os ⟨#[], #[], []⟩ with heap := (World.holding Tryd.prog os ⟨#[], #[], []⟩).heap.modify 0 fun
      | .cells _ t frozen => .cells opCells t frozen
      | o => o }
theorem laid_met (os : Os) : laidMet Tryd.prog Rows.requestJoinsUptoRow.laid ((laidWorld os).forCall (fun _ _ => 0) ⟨#[], #[.agg #[.slice none 0 0, .slice none 0 0, .slice none 0 0], .agg #[.slice none 0 0, .slice none 0 0, .slice none 0 0]], []⟩).memory :=
  laidMet_of_run' 8 (by kernel_rfl) (by kernel_rfl)
theorem reads (os : Os) {H : Type} (enc : TypeId × Value → H) : ∃ places, DataW.whole enc Tryd.prog ((laidWorld os).forCall (fun _ _ => 0) ⟨#[], #[.agg #[.slice none 0 0, .slice none 0 0, .slice none 0 0], .agg #[.slice none 0 0, .slice none 0 0, .slice none 0 0]], []⟩).memory Tryd.f4.params.toList Rows.requestJoinsSpec.vars false (#[.agg #[.slice none 0 0, .slice none 0 0, .slice none 0 0], .agg #[.slice none 0 0, .slice none 0 0, .slice none 0 0]] : Array Value).toList 8 = some ([.agg [.nil, .nil, .nil], .agg [.nil, .nil, .nil]], [], places) :=
  ⟨[], by kernel_rfl⟩
set_option maxRecDepth 100000 in
theorem lifted (os : Os) (started : os.Started) (H : Type) (enc : TypeId × Value → H) (F : Stop.Interp) :
    ReturnsInHanded {} Tryd.checked os 4 .any ((Rows.OpenSpec.upto Rows.requestJoinsSpec).preRow enc Tryd.prog Tryd.f4 Rows.requestJoinsUptoRow.domain false Rows.requestJoinsUptoRow.laid) (((Rows.OpenSpec.upto Rows.requestJoinsSpec).at F).post enc Tryd.prog Tryd.f4 false true false false) := by
  obtain ⟨places, hx⟩ := reads os enc
  refine returnsInHanded_of_row (C := Tryd.checked) (s := Rows.OpenSpec.upto Rows.requestJoinsSpec) own started (by kernel_rfl) Tryd.func4
    (witness_row_at (enc := enc) (C := Tryd.checked) false (laidWorld os) #[.agg #[.slice none 0 0, .slice none 0 0, .slice none 0 0], .agg #[.slice none 0 0, .slice none 0 0, .slice none 0 0]] rfl (by kernel_rfl) (by kernel_rfl) (by kernel_rfl)
      (OpenSpec.preRow_of_cond 8 hx (by kernel_rfl) (fun k hk => by cases hk; kernel_rfl) (by kernel_rfl) (laid_met os))) ?_
  intro W base args ds gs before hval hW _ hc _ hL _ _
  exact contract H enc W base args ds gs before hval hW hL (hc _ rfl)
theorem said : Rows.RequestJoinsUptoSaid :=
  OpenClaim.holds_of_cond 4 Tryd.f4 rfl rfl rfl rfl rfl rfl rfl ⟨rfl, rfl, rfl, rfl, rfl⟩ rfl rfl rfl rfl rfl (by kernel_rfl) Tryd.func4 (by kernel_rfl)
    (of_decide_eq_true (by kernel_rfl)) (by unfold Func.isWrapper; first | (rw [if_pos (by decide +kernel)]; kernel_rfl) | (rw [if_neg (by decide +kernel)]; exact ⟨rfl, rfl⟩))
    (fun os started H enc _ F => by rw [OpenClaim.pre_eq_preRow]; exact lifted os started H enc F)
theorem plain (f : FuncId) (fn : Func) (hf : Tryd.pinned.checked.prog.funcNamed "depot/depotlaw24.RequestJoins" = some f) (hfn : Tryd.pinned.checked.prog.funcs[f]? = some fn) :
    true = Tryd.pinned.checked.prog.looks [] ∧ ∀ (j : Nat) t, fn.params[j]? = some t → Tryd.pinned.checked.prog.wantsStandIn t = false := by
  obtain rfl : f = 4 := Option.some.inj ((show Tryd.prog.funcNamed "depot/depotlaw24.RequestJoins" = some 4 by kernel_rfl).symm.trans hf) |>.symm
  obtain rfl : fn = Tryd.f4 := (Option.some.inj (Tryd.func4.symm.trans hfn)).symm
  refine ⟨by kernel_rfl, fun j t ht => ?_⟩
  rw [Tryd.params4] at ht
  have h26 : Tryd.prog.wantsStandIn 26 = false := by kernel_rfl
  have hm := Array.mem_of_getElem? ht
  have : t = 26 := by simpa using hm
  rw [this]; exact h26
theorem card : Rows.RequestJoinsUptoCardSaid :=
  Claim7.holds_tied_plain_at .later [] _ _ _ _ said (fun _ h => by cases h) (by kernel_rfl) (fun _ h => by cases h) requestJoinsUpto_row_tie rfl ⟨rfl, rfl⟩ (by kernel_rfl) rfl plain (by kernel_rfl)
#print axioms card
end Go.Proofs.YtmocooihkobdjaaDoor.requestJoins
namespace Go.Proofs.YtmocooihkobdjaaDoor
theorem requestJoins_holds : Rows.RequestJoinsUptoCardSaid := requestJoins.card
end Go.Proofs.YtmocooihkobdjaaDoor
end
