/-
  RelationForms (P22.1) as plain Lean: which relations are well shaped, and which names are names.
-/
import Derived.Test.YtphabealejpfnaaDoorNames
set_option linter.unusedVariables false
set_option linter.unusedSimpArgs false
namespace Go.Proofs.YtphabealejpfnaaDoor.Read
open Go.RowKit Go.Proofs.YtphabealejpfnaaDoor.F Go.Proofs.YtphabealejpfnaaDoorW.PrintWords Go.Proofs.YtphabealejpfnaaDoorW.PrintLast Go.Proofs.YtphabealejpfnaaDoor.Ver
theorem sign_word (z : Int) : depotref22_Sign.f z = some (wordOf z) := by
  unfold depotref22_Sign.f wordOf
  repeat' split
  all_goals rfl
theorem formed_ev (n : ByteArray) (o : Int) (v : ByteArray) (hn : n.size ≤ 140737488351232) (hv : v.size ≤ 140737488351232) : ∃ b, Ev (fun k => relation_Formed.f k n o v) b ∧ Ev (fun k => depotref22_Formed.f k n o v) b := by
  obtain ⟨nb, hp, hr⟩ := names_ev n hn
  have hl := plegal_ev v hv
  have hl2 := legal_ev v hv
  unfold relation_Formed.f depotref22_Formed.f
  cases nb with
  | false =>
    refine ⟨false, Ev.bind hp ?_, Ev.bind hr ?_⟩
    · simp only [Bool.false_eq_true, if_false]; exact Ev.now _
    · simp only [Bool.false_eq_true, if_false]; exact Ev.now _
  | true =>
    by_cases ho : o = 0
    · refine ⟨v.toList == ([] : List UInt8), Ev.bind hp ?_, Ev.bind hr ?_⟩
      · simp only [if_true, if_pos ho]; exact Ev.now _
      · simp only [if_true, if_pos ho]; exact Ev.now _
    · by_cases hw : (wordOf o).toList = ([] : List UInt8)
      · refine ⟨false, Ev.bind hp ?_, Ev.bind hr ?_⟩
        · simp only [if_true, if_neg ho, relation_word.f, Option.bind_some, if_pos hw]; exact Ev.now _
        · simp only [if_true, if_neg ho, sign_word, Option.bind_some, if_pos hw]; exact Ev.now _
      · refine ⟨okS v, Ev.bind hp ?_, Ev.bind hr ?_⟩
        · simp only [if_true, if_neg ho, relation_word.f, Option.bind_some, if_neg hw]; exact Ev.bind hl (Ev.now _)
        · simp only [if_true, if_neg ho, sign_word, Option.bind_some, if_neg hw]; exact Ev.bind hl2 (Ev.now _)
theorem forms_ev (n : ByteArray) (o : Int) (v : ByteArray) (m : ByteArray) (hn : n.size ≤ 140737488351232) (hv : v.size ≤ 140737488351232) (hm : m.size ≤ 140737488351232) : Ev (fun k => depotlaw22_RelationForms.f k n o v m) true := by
  obtain ⟨b1, hp1, hr1⟩ := formed_ev n o v hn hv
  obtain ⟨b2, hp2, hr2⟩ := names_ev m hm
  obtain ⟨b3, hp3, hr3⟩ := names_ev n hn
  unfold depotlaw22_RelationForms.f
  refine Ev.bind hp1 ?_
  refine Ev.bind hp2 ?_
  refine Ev.bind hp3 ?_
  refine Ev.bind hr1 ?_
  simp only [beq_self_eq_true, if_true]
  refine Ev.bind hr2 ?_
  simp only [beq_self_eq_true, if_true]
  refine Ev.bind hr3 ?_
  simp only [beq_self_eq_true]
  exact Ev.now _
end Go.Proofs.YtphabealejpfnaaDoor.Read
