/-
  Plain Lean: names, and legal versions, as the program and the reference tell them.
-/
import Derived.Test.YtphabealejpfnaaDoorLegal
set_option linter.unusedVariables false
set_option linter.unusedSimpArgs false
namespace Go.Proofs.YtphabealejpfnaaDoor.Read
open Go.RowKit Go.Proofs.YtphabealejpfnaaDoor.F Go.Proofs.YtphabealejpfnaaDoorW.PrintWords Go.Proofs.YtphabealejpfnaaDoorW.PrintLast Go.Proofs.YtphabealejpfnaaDoor.Ver

/-! ### names -/
theorem names_ev (s : ByteArray) (hs : s.size ≤ 140737488351232) : ∃ b, Ev (fun k => relation_Name.f k s) b ∧ Ev (fun k => depotref22_Name.f k s) b := by
  have key : ∀ (d i : Nat), i + d = s.size → ∃ b, Ev (fun k => relation_Name.l0 k s (i : Int)) (b && decide ((s.size : Int) > 1)) ∧ Ev (fun k => depotref22_Name.l0 k s (i : Int)) b := by
    intro d
    induction d with
    | zero =>
      intro i hi
      refine ⟨true, ?_, ?_⟩
      · refine Ev.step (f := fun _ => some (true && decide ((s.size : Int) > 1))) (fun k => ?_) (Ev.now _)
        simp only [relation_Name.l0]
        rw [if_neg (by omega)]
        rfl
      · refine Ev.step (f := fun _ => some true) (fun k => ?_) (Ev.now _)
        simp only [depotref22_Name.l0]
        rw [if_neg (by omega)]
    | succ d ih =>
      intro i hi
      have ew : wrap64 ((i : Int) + 1) = ((i + 1 : Nat) : Int) := by rw [wrap_id (by omega) (by omega)]; omega
      obtain ⟨b, hp, hr⟩ := ih (i + 1) (by omega)
      let c := bt s i
      let pl : Bool := decide ((c ≥ 97 ∧ c ≤ 122) ∨ (c ≥ 48 ∧ c ≤ 57))
      let go : Bool := pl || (decide (i ≠ 0) && decide (c = 43 ∨ c = 45 ∨ c = 46))
      have ep : ∀ k, relation_Name.l0 (k + 2) s (i : Int) = if go = true then relation_Name.l0 k s ((i + 1 : Nat) : Int) else some false := by
        intro k
        simp only [relation_Name.l0, relation_Name.j1, ew, if_pos (show (i : Int) < s.size by omega), if_pos (show (0 : Int) ≤ i by omega)]
        simp only [go, pl, c]
        repeat' split
        all_goals first | rfl | (exfalso; simp_all; done) | (exfalso; simp_all; omega)
      have er : ∀ k, depotref22_Name.l0 (k + 1) s (i : Int) = if go = true then depotref22_Name.l0 k s ((i + 1 : Nat) : Int) else some false := by
        intro k
        simp only [depotref22_Name.l0, ew, if_pos (show (i : Int) < s.size by omega), if_pos (show (0 : Int) ≤ i by omega)]
        simp only [go, pl, c]
        repeat' split
        all_goals first | rfl | (exfalso; simp_all; done) | (exfalso; simp_all; omega)
      cases hg : go with
      | true =>
        refine ⟨b, ?_, Ev.step (f := fun k => depotref22_Name.l0 k s ((i + 1 : Nat) : Int)) (fun k => by rw [er, if_pos hg]) hr⟩
        refine Ev.step (f := fun k => relation_Name.l0 (k + 1) s (i : Int)) (fun k => rfl) (Ev.step (f := fun k => relation_Name.l0 k s ((i + 1 : Nat) : Int)) (fun k => by rw [ep, if_pos hg]) hp)
      | false =>
        refine ⟨false, ?_, Ev.step (f := fun _ => some false) (fun k => by rw [er, if_neg (by simp [hg])]) (Ev.now _)⟩
        refine Ev.step (f := fun k => relation_Name.l0 (k + 1) s (i : Int)) (fun k => rfl) (Ev.step (f := fun _ => some (false && decide ((s.size : Int) > 1))) (fun k => by rw [ep, if_neg (by simp [hg])]; rfl) (Ev.now _))
  unfold relation_Name.f depotref22_Name.f
  obtain ⟨b, hp, hr⟩ := key s.size 0 (by omega)
  by_cases h2 : (s.size : Int) < 2
  · refine ⟨false, ?_, ?_⟩
    · have e : (b && decide ((s.size : Int) > 1)) = false := by
        rw [decide_eq_false (by omega), Bool.and_false]
      rw [← e]
      exact hp
    · simp only [if_pos h2]; exact Ev.now _
  · refine ⟨b, ?_, ?_⟩
    · have e : (b && decide ((s.size : Int) > 1)) = b := by
        rw [decide_eq_true (by omega), Bool.and_true]
      rw [← e]
      exact hp
    · simp only [if_neg h2]
      exact hr
theorem plegal_ev (s : ByteArray) (hs : s.size ≤ 140737488351232) : Ev (fun k => version_Legal.f k s) (okS s) := by
  unfold version_Legal.f
  exact Ev.bind (parted_ev s hs) (Ev.now _)

end Go.Proofs.YtphabealejpfnaaDoor.Read
