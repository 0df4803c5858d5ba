/-
  RequestShapes (P24.1) as plain Lean: which requests are well shaped: the program's answer and the reference's.
-/
import Derived.Test.YtmocooihkobdjaaDoorAyFnForm
import Derived.Test.YtmocooihkobdjaaDoorAyFnRefForm
import Derived.Test.YtmocooihkobdjaaDoorAyFnReqForm
import Derived.Test.YtmocooihkobdjaaDoorAyFnCopyReq
import Derived.KernelRfl
set_option linter.unusedVariables false
set_option linter.unusedSimpArgs false
namespace Go.Proofs.YtmocooihkobdjaaDoor.Model
open Go.RowKit Go.Proofs.YtmocooihkobdjaaDoor.A Go.Proofs.YtmocooihkobdjaaDoorW.PrintWords Go.Proofs.YtmocooihkobdjaaDoorW.PrintLast Go.Proofs.YtmocooihkobdjaaDoor.Ver

theorem none_formed : Ev (fun k => request_Formed.f k ([] : List (List (S46))) ([] : List (S46)) ([] : List (S48))) true := by
  have := reqform_ev [] [] [] (by decide)
  exact this
theorem shapes_law (L : List (List S46)) (F : List S46) (W : List S48) (h : reqW L F W ≤ 1048576) : Ev (fun k => depotlaw24_RequestShapes.f k L F W) true := by
  unfold depotlaw24_RequestShapes.f
  refine Ev.bind (copyreq_ev L F W h) ?_
  refine Ev.bind (reqform_ev L F W h) ?_
  refine Ev.bind (rreqform_ev L F W h) ?_
  simp only [beq_self_eq_true, if_true]
  exact Ev.bind none_formed (Ev.now _)
end Go.Proofs.YtmocooihkobdjaaDoor.Model
