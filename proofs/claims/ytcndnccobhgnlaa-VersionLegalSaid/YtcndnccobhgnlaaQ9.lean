-- printed by wip/myprint.py of this session over the kit's print.py; Lean checks it
import Derived.Test.YtcndnccobhgnlaaQ0
namespace Go.Proofs.Ytcndnccobhgnlaa.Q
open Go.RowKit Go.Proofs.YtcndnccobhgnlaaW.PrintWords Go.Proofs.YtcndnccobhgnlaaW.PrintLast Go.Proofs.YtcndnccobhgnlaaW.PrintMore
attribute [local go_sem] max2_int min2_int max_two min_two max_three min_three max_four min_four   -- for this text's walks alone
set_option linter.unusedVariables false
set_option linter.unusedSimpArgs false

/-! ### version_hasRune: function 21 -/
/-- 'hasRune': does one of the text's runes equal r? -/
def version_hasRune.f (a0 : ByteArray) (a1 : Int) : Option (Bool) := some (!runesAll (fun c => decide ((c : Int) ≠ a1)) a0 a0.size 0)
set_option maxHeartbeats 1000000 in
set_option maxRecDepth 100000 in
theorem version_hasRune.calls (a0 : ByteArray) (a1 : Int) (r : Bool) (w : World) (h : version_hasRune.f a0 a1 = some r) :
    Calls Try.prog 21 #[.string a0, .int .i32 a1] w fun e w' => e = .returned (.bool r) ∧ Below w.heap.size w w' := by
  have Hr : Hid (r = !runesAll (fun c => decide ((c : Int) ≠ a1)) a0 a0.size 0) := by
    unfold version_hasRune.f at h; exact (Option.some.inj h).symm
  clear h
  go_enter Try.func21, Try.ntmps21
  go_wp2
  go_loopw [] (fun wr => ∃ pos fuel : Nat, Hid (wr = w.iter a0 pos) ∧ a0.size ≤ pos + fuel ∧ Hid (runesAll (fun c => decide ((c : Int) ≠ a1)) a0 a0.size 0 = runesAll (fun c => decide ((c : Int) ≠ a1)) a0 fuel pos)) (fun wr => a0.size - wr.iterPos w.heap.size)
  case atStart => exact ⟨0, a0.size, rfl, by omega, rfl⟩
  case round =>
    obtain ⟨pos, fuel, hw, hf, hr⟩ := hrel
    obtain rfl := hw.out
    clear hw
    by_cases hp : pos < a0.size
    · have hnx := fun ty => run_next_any (P := Try.prog) w a0 pos ty hp
      obtain ⟨f, rfl⟩ : ∃ f, fuel = f + 1 := ⟨fuel - 1, by omega⟩
      have hwd := width_pos a0 pos hp
      have Hnx := Lib.hid (hr.out.trans (runesAll_step _ a0 f pos hp))
      clear hr
      by_cases hc : ((Utf8.decode a0 pos).1 : Int) = a1
      · have hb : (((Utf8.decode a0 pos).1 : Int) == a1) = true := by simpa using hc
        have Hc := Lib.hid hc
        clear hc
        go_wp2
        go_ret
        refine ⟨?_, ((Below.refl _ w).alloc (Nat.le_refl _) _)⟩
        rw [Hr.out, Hnx.out]
        simp [Hc.out]
      · have hb : (((Utf8.decode a0 pos).1 : Int) == a1) = false := by simpa using hc
        have Hc := Lib.hid hc
        clear hc
        go_wp2
        go_roundw
        case rel =>
          refine ⟨pos + (Utf8.decode a0 pos).2, f, rfl, by omega, ?_⟩
          rw [Hid, Hnx.out]
          simp [Hc.out]
        case measure =>
          simp
          omega
    · have hnx := fun ty => run_next_end (P := Try.prog) w a0 pos ty hp
      have Hend := Lib.hid (hr.out.trans (runesAll_end _ a0 fuel pos hp))
      clear hr
      go_wp2
      go_ret
      refine ⟨?_, ((Below.refl _ w).alloc (Nat.le_refl _) _)⟩
      rw [Hr.out, Hend.out]
      rfl


end Go.Proofs.Ytcndnccobhgnlaa.Q
