/-
  Plain Lean: which texts are versions, and what they fall into. The reference's functions (depotref20) come to what the program's do.
-/
import Derived.Test.YtmocooihkobdjaaDoorByVer
set_option linter.unusedVariables false
set_option linter.unusedSimpArgs false
namespace Go.Proofs.YtmocooihkobdjaaDoor.Ver
open Go.RowKit Go.Proofs.YtmocooihkobdjaaDoor.B Go.Proofs.YtmocooihkobdjaaDoorW.PrintWords Go.Proofs.YtmocooihkobdjaaDoorW.PrintLast
theorem lastR_l (s : ByteArray) (c : Int) (hs : s.size ≤ 140737488351232) : ∀ n : Nat, n ≤ s.size → Ev (fun k => depotref20_last.l0 k s c (wrap64 ((n : Int) - 1))) (lastN s c n) := by
  intro n
  induction n with
  | zero =>
    intro _
    refine Ev.step (f := fun _ => some (-1)) (fun k => ?_) (Ev.now _)
    have e : wrap64 (((0 : Nat) : Int) - 1) = -1 := wrap_id (by omega) (by omega)
    simp only [depotref20_last.l0]
    rw [e, if_neg (by omega)]
  | succ n ih =>
    intro hn
    have e : wrap64 (((n + 1 : Nat) : Int) - 1) = n := by rw [wrap_id (by omega) (by omega)]; omega
    by_cases hb : bt s n = c
    · refine Ev.step (f := fun _ => some (n : Int)) (fun k => ?_) ?_
      · simp only [depotref20_last.l0]
        rw [e, if_pos (by omega), if_pos (by omega), if_pos (by omega), if_pos hb]
      · have : lastN s c (n + 1) = n := by unfold lastN; rw [if_pos hb]
        rw [this]; exact Ev.now _
    · refine Ev.step (f := fun k => depotref20_last.l0 k s c (wrap64 ((n : Int) - 1))) (fun k => ?_) ?_
      · simp only [depotref20_last.l0]
        rw [e, if_pos (by omega), if_pos (by omega), if_pos (by omega), if_neg hb]
      · have : lastN s c (n + 1) = lastN s c n := by conv => lhs; unfold lastN; rw [if_neg hb]
        rw [this]; exact ih (by omega)
theorem lastR_ev (s : ByteArray) (c : Int) (hs : s.size ≤ 140737488351232) : Ev (fun k => depotref20_last.f k s c) (lastN s c s.size) := by
  unfold depotref20_last.f
  exact lastR_l s c hs s.size (Nat.le_refl _)

def shift (i : Nat) (r : Int) : Int := if r = -1 then -1 else r + i
theorem first_l (s : ByteArray) (c : UInt8) (hs : s.size ≤ 140737488351232) : ∀ (d i : Nat), i + d = s.size → Ev (fun k => depotref20_first.l0 k s (c.toNat : Int) (i : Int)) (shift i (Lib.indexByte (s.data.toList.drop i) c)) := by
  intro d
  induction d with
  | zero =>
    intro i hi
    have e : s.data.toList.drop i = [] := by
      apply List.drop_eq_nil_of_le
      simp; omega
    rw [e]
    refine Ev.step (f := fun _ => some (-1)) (fun k => ?_) (Ev.now _)
    simp only [depotref20_first.l0]
    rw [if_neg (by omega)]
  | succ d ih =>
    intro i hi
    have hlt : i < s.size := by omega
    have hb := bt_eq s i hlt
    rw [drop_cons s i hlt]
    by_cases hc : s[i]'hlt = c
    · refine Ev.step (f := fun _ => some (i : Int)) (fun k => ?_) ?_
      · simp only [depotref20_first.l0]
        rw [if_pos (by omega), if_pos (by omega), if_pos (by rw [hb, hc])]
      · have : shift i (Lib.indexByte (s[i]'hlt :: s.data.toList.drop (i + 1)) c) = i := by simp [shift, Lib.indexByte, hc]
        rw [this]; exact Ev.now _
    · refine Ev.step (f := fun k => depotref20_first.l0 k s (c.toNat : Int) ((i + 1 : Nat) : Int)) (fun k => ?_) ?_
      · simp only [depotref20_first.l0]
        have hne : ¬ bt s (i : Int) = (c.toNat : Int) := by
          rw [hb]
          intro h
          exact hc (Lib.byte_eq_of_toNat h)
        rw [if_pos (by omega), if_pos (by omega), if_neg hne]
        have e : wrap64 ((i : Int) + 1) = ((i + 1 : Nat) : Int) := by rw [wrap_id (by omega) (by omega)]; omega
        rw [e]
      · have h2 := ih (i + 1) (by omega)
        have : shift i (Lib.indexByte (s[i]'hlt :: s.data.toList.drop (i + 1)) c) = shift (i + 1) (Lib.indexByte (s.data.toList.drop (i + 1)) c) := by
          have hge := (idx_bd (s.data.toList.drop (i + 1)) c).1
          unfold shift
          rw [Lib.indexByte]
          have hf : (s[i]'hlt == c) = false := by simpa using hc
          rw [hf]
          simp only [Bool.false_eq_true, if_false, beq_iff_eq]
          by_cases h1 : Lib.indexByte (s.data.toList.drop (i + 1)) c = -1
          · rw [if_pos h1, if_pos rfl, if_pos h1]
          · rw [if_neg h1, if_neg (by omega), if_neg h1]; omega
        rw [this]; exact h2
theorem first_ev (s : ByteArray) (c : UInt8) (hs : s.size ≤ 140737488351232) : Ev (fun k => depotref20_first.f k s (c.toNat : Int)) (Lib.indexByte s.data.toList c) := by
  have h := first_l s c hs s.size 0 (by omega)
  have e : shift 0 (Lib.indexByte (s.data.toList.drop 0) c) = Lib.indexByte s.data.toList c := by
    unfold shift
    rw [List.drop_zero]
    split <;> omega
  rw [e] at h
  unfold depotref20_first.f
  exact h

theorem refparted_ev (s : ByteArray) (hs : s.size ≤ 140737488351232) : Ev (fun k => depotref20_parted.f k s) (epochS s, upS s, revS s, colonS s, minusS s) := by
  have hb := behind_le s
  unfold depotref20_parted.f
  refine Ev.bind (first_ev s 58 hs) ?_
  change Ev (fun k => (depotref20_last.f k (behindS s) 45).bind _) _
  refine Ev.bind (lastR_ev (behindS s) 45 (by omega)) ?_
  have h1 := colon_bd s
  have h2 := minus_bd s
  rw [if_pos ⟨h1, h2, by omega, by change ((behindS s).size : Int) ≤ _; omega⟩]
  exact Ev.now _
end Go.Proofs.YtmocooihkobdjaaDoor.Ver
