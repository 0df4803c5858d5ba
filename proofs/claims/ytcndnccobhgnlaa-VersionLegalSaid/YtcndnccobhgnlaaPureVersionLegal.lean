/-
  VersionLegal (P20.1) as plain Lean: which texts are versions, and what they fall into: the program's answers are the reference's, for every text of at most 2^47 bytes.
-/
import Derived.Test.YtcndnccobhgnlaaLegal
set_option linter.unusedVariables false
set_option linter.unusedSimpArgs false
namespace Go.Proofs.Ytcndnccobhgnlaa.Ver
open Go.RowKit Go.Proofs.Ytcndnccobhgnlaa.Q Go.Proofs.YtcndnccobhgnlaaW.PrintWords Go.Proofs.YtcndnccobhgnlaaW.PrintLast

theorem plegal_ev (s : ByteArray) (hs : s.size ≤ 140737488351232) : Ev (fun k => version_Legal.f k s) (okS s) := by
  unfold version_Legal.f
  exact Ev.bind (parted_ev s hs) (Ev.now _)
theorem pcut_ev (s : ByteArray) (hs : s.size ≤ 140737488351232) : Ev (fun k => version_Cut.f k s) (if okS s = true then (epochS s, upS s, revS s, 0) else (⟨#[]⟩, ⟨#[]⟩, ⟨#[]⟩, 200)) := by
  unfold version_Cut.f
  refine Ev.bind (parted_ev s hs) ?_
  simp only
  split <;> exact Ev.now _
theorem rcut_ev (s : ByteArray) (hs : s.size ≤ 140737488351232) : Ev (fun k => depotref20_Cut.f k s) (if okS s = true then (epochS s, upS s, revS s, 0) else (⟨#[]⟩, ⟨#[]⟩, ⟨#[]⟩, 200)) := by
  unfold depotref20_Cut.f
  refine Ev.bind (legal_ev s hs) ?_
  split
  · exact Ev.bind (refparted_ev s hs) (Ev.now _)
  · exact Ev.now _
theorem VersionLegal : depotlaw20_VersionLegal.Pure := by
  intro s hs
  refine Ev.rounds ?_
  unfold depotlaw20_VersionLegal.f
  refine Ev.bind (plegal_ev _ (by decide)) ?_
  have e0 : okS ⟨#[50, 58, 49, 46, 48, 126, 114, 99, 49, 45, 49]⟩ = true := by kernel_rfl
  simp only [if_pos e0]
  refine Ev.bind (pcut_ev s hs) ?_
  refine Ev.bind (rcut_ev s hs) ?_
  refine Ev.bind (plegal_ev s hs) ?_
  refine Ev.bind (legal_ev s hs) ?_
  simp
  exact Ev.now _
end Go.Proofs.Ytcndnccobhgnlaa.Ver
namespace Go.Proofs.Ytcndnccobhgnlaa.Pure
theorem VersionLegal : Q.depotlaw20_VersionLegal.Pure := Ver.VersionLegal
end Go.Proofs.Ytcndnccobhgnlaa.Pure
