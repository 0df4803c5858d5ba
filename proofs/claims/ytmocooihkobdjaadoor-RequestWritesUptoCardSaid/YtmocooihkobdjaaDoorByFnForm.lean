/- Plain Lean: relation.Formed by the functions on bytes. -/
import Derived.Test.YtmocooihkobdjaaDoorByForm
import Derived.Test.YtmocooihkobdjaaDoorByWeigh
set_option linter.unusedVariables false
set_option linter.unusedSimpArgs false
namespace Go.Proofs.YtmocooihkobdjaaDoor.Model
open Go.RowKit Go.Proofs.YtmocooihkobdjaaDoor.B Go.Proofs.YtmocooihkobdjaaDoorW.PrintWords Go.Proofs.YtmocooihkobdjaaDoorW.PrintLast Go.Proofs.YtmocooihkobdjaaDoor.Ver

theorem form_ev (x : S46) (h : relW x ≤ 140737488351232) : Ev (fun k => relation_Formed.f k x.f0 x.f1 x.f2) (formM x) := by
  unfold relW at h
  have hn := name_ev x.f0 (by omega)
  have hl := plegal_ev x.f2 (by omega)
  unfold relation_Formed.f formM
  refine Ev.bind hn ?_
  cases nameM x.f0.data.toList with
  | false =>
    simp only [Bool.false_eq_true, if_false, Bool.false_and]
    exact Ev.now _
  | true =>
    simp only [if_true, Bool.true_and]
    by_cases h0 : x.f1 = 0
    · simp only [if_pos h0]
      exact Ev.now _
    · simp only [if_neg h0, relation_word.f, Option.bind_some]
      by_cases hw : (wordOf x.f1).toList = []
      · simp only [if_pos hw]
        exact Ev.now _
      · simp only [if_neg hw]
        exact Ev.bind hl (Ev.now _)
end Go.Proofs.YtmocooihkobdjaaDoor.Model
