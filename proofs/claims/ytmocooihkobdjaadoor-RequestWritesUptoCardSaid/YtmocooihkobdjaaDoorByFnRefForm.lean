/- Plain Lean: the reference's Formed of relations (depotref22) is the program's. -/
import Derived.Test.YtmocooihkobdjaaDoorByForm
import Derived.Test.YtmocooihkobdjaaDoorByWeigh
import Derived.Test.YtmocooihkobdjaaDoorByLegal
set_option linter.unusedVariables false
set_option linter.unusedSimpArgs false
namespace Go.Proofs.YtmocooihkobdjaaDoor.Model
open Go.RowKit Go.Proofs.YtmocooihkobdjaaDoor.B Go.Proofs.YtmocooihkobdjaaDoorW.PrintWords Go.Proofs.YtmocooihkobdjaaDoorW.PrintLast Go.Proofs.YtmocooihkobdjaaDoor.Ver

theorem rname_ev (s : ByteArray) (hs : s.size ≤ 140737488351232) : Ev (fun k => depotref22_Name.f k s) (nameM s.data.toList) := by
  have key : ∀ (d i : Nat), i + d = s.size → Ev (fun k => depotref22_Name.l0 k s (i : Int)) (nameL (decide (i = 0)) (at_ s i)) := by
    intro d
    induction d with
    | zero =>
      intro i hi
      obtain rfl : i = s.size := by omega
      rw [at_end]
      refine Ev.step (f := fun _ => some true) (fun k => ?_) (Ev.now _)
      simp only [depotref22_Name.l0]
      rw [if_neg (by omega)]
    | succ d ih =>
      intro i hi
      have hl : i < s.size := by omega
      have ew : wrap64 ((i : Int) + 1) = ((i + 1 : Nat) : Int) := by rw [wrap_id (by omega) (by omega)]; omega
      have hp := ih (i + 1) (by omega)
      rw [show decide (i + 1 = 0) = false from decide_eq_false (by omega)] at hp
      have hb := namB_int (decide (i = 0)) (s[i]'hl)
      have ep : ∀ k, depotref22_Name.l0 (k + 1) s (i : Int) = if namB (decide (i = 0)) (s[i]'hl) = true then depotref22_Name.l0 k s ((i + 1 : Nat) : Int) else some false := by
        intro k
        simp only [depotref22_Name.l0, ew, bt_eq s i hl, if_pos (show (i : Int) < s.size by omega), if_pos (show (0 : Int) ≤ i by omega)]
        rw [hb]
        repeat' split
        all_goals first | rfl | (exfalso; simp_all; done) | (exfalso; simp_all; omega)
      rw [at_lt hl, nameL]
      cases hg : namB (decide (i = 0)) (s[i]'hl) with
      | true =>
        rw [Bool.true_and]
        exact Ev.step (f := fun k => depotref22_Name.l0 k s ((i + 1 : Nat) : Int)) (fun k => by rw [ep, if_pos hg]) hp
      | false =>
        rw [Bool.false_and]
        exact Ev.step (f := fun _ => some false) (fun k => by rw [ep, if_neg (by simp [hg])]) (Ev.now _)
  have hl : s.data.toList.length = s.size := by simp
  unfold depotref22_Name.f nameM
  by_cases h : (s.size : Int) < 2
  · simp only [if_pos h]
    rw [decide_eq_false (show ¬ 1 < s.data.toList.length by omega), Bool.and_false]
    exact Ev.now _
  · simp only [if_neg h]
    rw [decide_eq_true (show 1 < s.data.toList.length by omega), Bool.and_true]
    exact key s.size 0 (by omega)
theorem rsign (z : Int) : depotref22_Sign.f z = some (wordOf z) := by
  unfold depotref22_Sign.f wordOf
  repeat' split
  all_goals rfl
theorem rform_ev (x : S46) (h : relW x ≤ 140737488351232) : Ev (fun k => depotref22_Formed.f k x.f0 x.f1 x.f2) (formM x) := by
  unfold relW at h
  have hn := rname_ev x.f0 (by omega)
  have hl := legal_ev x.f2 (by omega)
  unfold depotref22_Formed.f formM
  refine Ev.bind hn ?_
  cases nameM x.f0.data.toList with
  | false =>
    simp only [Bool.false_eq_true, if_false, Bool.false_and]
    exact Ev.now _
  | true =>
    simp only [if_true, Bool.true_and]
    by_cases h0 : x.f1 = 0
    · simp only [if_pos h0]
      exact Ev.now _
    · simp only [if_neg h0, rsign, Option.bind_some]
      by_cases hw : (wordOf x.f1).toList = []
      · simp only [if_pos hw]
        exact Ev.now _
      · simp only [if_neg hw]
        exact Ev.bind hl (Ev.now _)
end Go.Proofs.YtmocooihkobdjaaDoor.Model
