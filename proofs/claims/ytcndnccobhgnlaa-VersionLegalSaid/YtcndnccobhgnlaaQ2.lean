-- printed by wip/myprint.py of this session over the kit's print.py; Lean checks it
import Derived.Test.YtcndnccobhgnlaaQ0
import Derived.Test.YtcndnccobhgnlaaQ1
namespace Go.Proofs.Ytcndnccobhgnlaa.Q
open Go.RowKit Go.Proofs.YtcndnccobhgnlaaW.PrintWords Go.Proofs.YtcndnccobhgnlaaW.PrintLast Go.Proofs.YtcndnccobhgnlaaW.PrintMore
attribute [local go_sem] max2_int min2_int max_two min_two max_three min_three max_four min_four   -- for this text's walks alone
set_option linter.unusedVariables false
set_option linter.unusedSimpArgs false

/-! ### stringslite_Index: function 22 -/
/-- 'stringslite.Index', of a text of one byte alone. -/
def stringslite_Index.f (a0 : ByteArray) (a1 : ByteArray) : Option (Int) := if a1.size = 1 then some (Lib.indexByte a0.data.toList (a1.data.getD 0 0)) else none
set_option maxHeartbeats 1000000 in
set_option maxRecDepth 100000 in
theorem stringslite_Index.calls (a0 : ByteArray) (a1 : ByteArray) (r : Int) (w : World) (h : stringslite_Index.f a0 a1 = some r) :
    Calls Try.prog 22 #[.string a0, .string a1] w fun e w' => e = .returned (.int .i64 r) ∧ Drawn0 w w' := by
  unfold stringslite_Index.f at h
  split at h
  case isFalse => cases h
  case isTrue h1 =>
    obtain ⟨⟨l⟩⟩ := a1
    obtain ⟨c, rfl⟩ : ∃ c, l = [c] := by
      have : l.length = 1 := h1
      match l, this with
      | [c], _ => exact ⟨c, rfl⟩
    clear h1
    have Hr : Hid (r = Lib.indexByte a0.data.toList c) := (Option.some.inj h).symm
    clear h
    go_enter Try.func22, Try.ntmps22
    go_wp2_with (go_at_call 23; refine (stringslite_IndexByte.calls _ _ _ _ rfl).mono ?_; rintro e w' ⟨rfl, ⟨nd, rfl⟩⟩)
    · have h : ([c] == a0.toList) = true := by assumption
      go_ret
      refine ⟨?_, Drawn0.refl _⟩
      have e : a0.data.toList = [c] := by rw [← Lib.toList_data]; exact (beq_iff_eq.1 h).symm
      rw [Hr.out, e]
      simp [Lib.indexByte]
    · go_ret
      obtain rfl := Hr.out
      exact ⟨rfl, ⟨⟨_, rfl⟩⟩⟩


end Go.Proofs.Ytcndnccobhgnlaa.Q
