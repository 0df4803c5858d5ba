/-
  VersionKeys (P20.3) as plain Lean: the program's keys are the reference's, for every text of at most 2^20 bytes.
-/
import Derived.Test.YtcndnccobhgnlaaDoorKyBlocksRef
set_option linter.unusedVariables false
set_option linter.unusedSimpArgs false
namespace Go.Proofs.YtcndnccobhgnlaaDoor.Ver
open Go.RowKit Go.Proofs.YtcndnccobhgnlaaDoor.K Go.Proofs.YtcndnccobhgnlaaDoorW.PrintWords Go.Proofs.YtcndnccobhgnlaaDoorW.PrintLast

theorem same_row (a : List (List S40)) (i : Nat) (hi : i < a.length) (hl : a.length ≤ 1099511627776) (hr : (rd_L7 a (i : Int)).length ≤ 1099511627776) (R : Bool)
    (H : Ev (fun k => depotlaw20_same.l0 k a a ((i + 1 : Nat) : Int)) R) : ∀ d j, j + d = (rd_L7 a (i : Int)).length → Ev (fun k => depotlaw20_same.l1 k a a (i : Int) (j : Int)) R := by
  intro d
  induction d with
  | zero =>
    intro j hj
    refine Ev.step (f := fun k => depotlaw20_same.l0 k a a ((i + 1 : Nat) : Int)) (fun k => ?_) H
    rw [depotlaw20_same.l1, if_pos (by omega), if_pos (by omega), if_neg (by omega), wrap_id (by omega) (by omega)]
    rfl
  | succ d ih =>
    intro j hj
    refine Ev.step (f := fun k => depotlaw20_same.l1 k a a (i : Int) ((j + 1 : Nat) : Int)) (fun k => ?_) (ih (j + 1) (by omega))
    rw [depotlaw20_same.l1, if_pos (by omega), if_pos (by omega), if_pos (by omega), if_pos (by omega), if_pos (by omega), if_pos (by omega), if_neg (by simp), wrap_id (by omega) (by omega)]
    rfl
theorem same_rows (a : List (List S40)) (hl : a.length ≤ 1099511627776) (hr : ∀ i : Nat, (rd_L7 a (i : Int)).length ≤ 1099511627776) : ∀ d i, i + d = a.length → Ev (fun k => depotlaw20_same.l0 k a a (i : Int)) true := by
  intro d
  induction d with
  | zero =>
    intro i hi
    refine Ev.step (f := fun _ => some true) (fun k => ?_) (Ev.now _)
    rw [depotlaw20_same.l0, if_neg (by omega)]
  | succ d ih =>
    intro i hi
    refine Ev.step (f := fun k => depotlaw20_same.l1 k a a (i : Int) ((0 : Nat) : Int)) (fun k => ?_) (same_row a i (by omega) hl (hr i) true (ih (i + 1) (by omega)) (rd_L7 a (i : Int)).length 0 (by omega))
    rw [depotlaw20_same.l0, if_pos (by omega), if_pos (by omega), if_pos (by omega), if_pos rfl]
    rfl
theorem same_self (a : List (List S40)) (hl : a.length ≤ 1099511627776) (hr : ∀ i : Nat, (rd_L7 a (i : Int)).length ≤ 1099511627776) : Ev (fun k => depotlaw20_same.f k a a) true := by
  unfold depotlaw20_same.f
  simp only [if_true]
  exact same_rows a hl hr a.length 0 (by omega)
theorem keyM_small (s : ByteArray) (hs : s.size ≤ 1048576) : (keyM s).1.length ≤ 1099511627776 ∧ ∀ i : Nat, (rd_L7 (keyM s).1 (i : Int)).length ≤ 1099511627776 := by
  obtain ⟨l1, l2, l3⟩ := parts_le s
  have b1 := blocksM_len (epochS s)
  have b2 := blocksM_len (upS s)
  have b3 := blocksM_len (revS s)
  unfold keyM
  split
  · refine ⟨by simp, fun i => ?_⟩
    unfold rd_L7
    rw [Int.toNat_natCast]
    match i with
    | 0 => simp; omega
    | 1 => simp; omega
    | 2 => simp; omega
    | i + 3 => simp
  · refine ⟨by simp, fun i => ?_⟩
    unfold rd_L7
    simp
theorem keys_ev (s : ByteArray) (hs : s.size ≤ 1048576) : Ev (fun k => depotlaw20_VersionKeys.f k s) true := by
  unfold depotlaw20_VersionKeys.f
  refine Ev.bind (key_ev _ (by decide)) ?_
  have e0 : okS ⟨#[49, 46, 50, 97]⟩ = true := by kernel_rfl
  have e1 : (keyM ⟨#[49, 46, 50, 97]⟩).2 = 0 := by unfold keyM; rw [if_pos e0]
  have e2 : (((keyM ⟨#[49, 46, 50, 97]⟩).1.length : Int) != 3) = false := by unfold keyM; rw [if_pos e0]; rfl
  simp only [e1, e2, if_true]
  refine Ev.step (f := fun k => (version_Key.f k s).bind fun bt212 => ((depotref20_Key.f k s).bind fun bt216 => (if bt212.2 = bt216.2 then ((depotlaw20_same.f k bt212.1 bt216.1).bind fun t220 => (some t220)) else (some false)))) (fun k => ?_) ?_
  · simp only [depotlaw20_VersionKeys.j0, Bool.false_eq_true, if_false]
  refine Ev.bind (key_ev s (by omega)) ?_
  refine Ev.bind (ref_key_ev s (by omega)) ?_
  simp only [if_true]
  obtain ⟨h1, h2⟩ := keyM_small s hs
  exact Ev.bind (same_self _ h1 h2) (Ev.now _)
end Go.Proofs.YtcndnccobhgnlaaDoor.Ver
