/-
  Plain Lean: which texts are versions, and what they fall into. The program's functions (version).
-/
import Derived.Test.YtmocooihkobdjaaDoorB
import Derived.Lib.IndexBytes
set_option linter.unusedVariables false
set_option linter.unusedSimpArgs false
namespace Go.Proofs.YtmocooihkobdjaaDoor.Ver
open Go.RowKit Go.Proofs.YtmocooihkobdjaaDoor.B Go.Proofs.YtmocooihkobdjaaDoorW.PrintWords Go.Proofs.YtmocooihkobdjaaDoorW.PrintLast

theorem wrap_id {x : Int} (h0 : -9223372036854775808 ≤ x) (h1 : x ≤ 9223372036854775807) : wrap64 x = x := by
  unfold wrap64
  omega

/-! ### the last place of a byte -/
def lastN (s : ByteArray) (c : Int) : Nat → Int
  | 0 => -1
  | n + 1 => if bt s n = c then n else lastN s c n
theorem lastN_bd (s : ByteArray) (c : Int) : ∀ n, -1 ≤ lastN s c n ∧ lastN s c n + 1 ≤ n := by
  intro n
  induction n with
  | zero => exact ⟨by simp [lastN], by simp [lastN]⟩
  | succ n ih =>
    unfold lastN
    split <;> omega
theorem lastB_ev (s : ByteArray) (c : Int) (hs : s.size ≤ 140737488351232) : ∀ n : Nat, n ≤ s.size → Ev (fun k => bytealg_LastIndexByteString.l0 k s c (wrap64 ((n : Int) - 1))) (lastN s c n) := by
  intro n
  induction n with
  | zero =>
    intro _
    refine Ev.step (f := fun _ => some (-1)) (fun k => ?_) (Ev.now _)
    have e : wrap64 (((0 : Nat) : Int) - 1) = -1 := wrap_id (by omega) (by omega)
    simp only [bytealg_LastIndexByteString.l0]
    rw [e, if_neg (by omega)]
  | succ n ih =>
    intro hn
    have e : wrap64 (((n + 1 : Nat) : Int) - 1) = n := by rw [wrap_id (by omega) (by omega)]; omega
    by_cases hb : bt s n = c
    · refine Ev.step (f := fun _ => some (n : Int)) (fun k => ?_) ?_
      · simp only [bytealg_LastIndexByteString.l0]
        rw [e, if_pos (by omega), if_pos (by omega), if_pos (by omega), if_pos hb]
      · have : lastN s c (n + 1) = n := by unfold lastN; rw [if_pos hb]
        rw [this]; exact Ev.now _
    · refine Ev.step (f := fun k => bytealg_LastIndexByteString.l0 k s c (wrap64 ((n : Int) - 1))) (fun k => ?_) ?_
      · simp only [bytealg_LastIndexByteString.l0]
        rw [e, if_pos (by omega), if_pos (by omega), if_pos (by omega), if_neg hb]
      · have : lastN s c (n + 1) = lastN s c n := by conv => lhs; unfold lastN; rw [if_neg hb]
        rw [this]; exact ih (by omega)
theorem last_ev (s : ByteArray) (c : Int) (hs : s.size ≤ 140737488351232) : Ev (fun k => strings_LastIndexByte.f k s c) (lastN s c s.size) := by
  unfold strings_LastIndexByte.f bytealg_LastIndexByteString.f
  exact Ev.bind (lastB_ev s c hs s.size (Nat.le_refl _)) (Ev.now _)
/-! ### the first place of a byte -/
theorem idx_bd (l : List UInt8) (c : UInt8) : -1 ≤ Lib.indexByte l c ∧ Lib.indexByte l c + 1 ≤ l.length := by
  refine ⟨Lib.indexByte_ge l c, ?_⟩
  induction l with
  | nil => simp [Lib.indexByte]
  | cons b l ih =>
    unfold Lib.indexByte
    split
    · simp only [List.length_cons]; omega
    · split
      · simp only [List.length_cons]; omega
      · simp only [List.length_cons]; omega
theorem bt_eq (s : ByteArray) (i : Nat) (h : i < s.size) : bt s i = ((s[i]'h).toNat : Int) := by
  have := bt_at s (i : Int) (by simpa using h)
  rw [← this]
  simp
theorem drop_cons (s : ByteArray) (i : Nat) (h : i < s.size) : s.data.toList.drop i = s[i]'h :: s.data.toList.drop (i + 1) := by
  have hl : i < s.data.toList.length := by simpa using h
  rw [List.drop_eq_getElem_cons hl]
  rfl
/-! ### cutting at a byte -/
theorem cut_one (s : ByteArray) (c : UInt8) (hs : s.size ≤ 140737488351232) :
    strings_Cut.f s ⟨#[c]⟩ = some (if 0 ≤ Lib.indexByte s.data.toList c then (s.extract 0 (Lib.indexByte s.data.toList c).toNat, s.extract (Lib.indexByte s.data.toList c + 1).toNat s.size, true) else (s, ⟨#[]⟩, false)) := by
  have hb := idx_bd s.data.toList c
  have hl : (s.data.toList.length : Int) = s.size := by simp
  unfold strings_Cut.f stringslite_Cut.f stringslite_Index.f
  have h1 : (⟨#[c]⟩ : ByteArray).size = 1 := rfl
  rw [if_pos h1]
  have h0 : (⟨#[c]⟩ : ByteArray).data.getD 0 0 = c := rfl
  rw [h0]
  simp only [Option.bind_some]
  by_cases h : 0 ≤ Lib.indexByte s.data.toList c
  · have e : wrap64 (Lib.indexByte s.data.toList c + (((⟨#[c]⟩ : ByteArray).size : Nat) : Int)) = Lib.indexByte s.data.toList c + 1 := by
      rw [h1]
      exact wrap_id (by omega) (by omega)
    rw [if_pos (show Lib.indexByte s.data.toList c ≥ 0 from h), if_pos h, if_pos (by omega), e, if_pos (by omega), if_pos (by omega), if_pos h]
    rfl
  · rw [if_neg (show ¬ Lib.indexByte s.data.toList c ≥ 0 from h), if_neg h]
    rfl

/-! ### what a text falls into -/
def colonI (s : ByteArray) : Int := Lib.indexByte s.data.toList 58
def epochS (s : ByteArray) : ByteArray := epochR s (colonI s)
def behindS (s : ByteArray) : ByteArray := restR s (colonI s)
def minusI (s : ByteArray) : Int := lastN (behindS s) 45 (behindS s).size
def upS (s : ByteArray) : ByteArray := upR (behindS s) (minusI s)
def revS (s : ByteArray) : ByteArray := revR (behindS s) (minusI s)
def colonS (s : ByteArray) : Bool := decide (0 ≤ colonI s)
def minusS (s : ByteArray) : Bool := decide (0 ≤ minusI s)
def okS (s : ByteArray) : Bool := (fin (colonS s) (minusS s) (epochS s) (upS s) (revS s)).2.2.2

theorem behind_le (s : ByteArray) : (behindS s).size ≤ s.size := by
  unfold behindS restR
  split
  · simp
  · exact Nat.le_refl _
theorem colon_bd (s : ByteArray) : colonI s + 1 ≤ s.size := by
  have := (idx_bd s.data.toList 58).2
  have hl : (s.data.toList.length : Int) = s.size := by simp
  unfold colonI
  omega
theorem minus_bd (s : ByteArray) : minusI s + 1 ≤ (behindS s).size := (lastN_bd (behindS s) 45 _).2

theorem parted_ev (s : ByteArray) (hs : s.size ≤ 140737488351232) : Ev (fun k => version_parted.f k s) (epochS s, upS s, revS s, okS s) := by
  have hb := behind_le s
  have hc : strings_Cut.f s ⟨#[58]⟩ = some (if 0 ≤ colonI s then s.extract 0 (colonI s).toNat else s, if 0 ≤ colonI s then s.extract (colonI s + 1).toNat s.size else ⟨#[]⟩, colonS s) := by
    rw [cut_one s 58 hs]
    unfold colonS colonI
    split <;> simp_all
  have hrest : restOf s (if 0 ≤ colonI s then s.extract 0 (colonI s).toNat else s, if 0 ≤ colonI s then s.extract (colonI s + 1).toNat s.size else ⟨#[]⟩, colonS s) = behindS s := by
    unfold restOf behindS restR colonS
    simp only [decide_eq_true_eq]
    split <;> rfl
  have hep : epochOf (if 0 ≤ colonI s then s.extract 0 (colonI s).toNat else s, if 0 ≤ colonI s then s.extract (colonI s + 1).toNat s.size else ⟨#[]⟩, colonS s) = epochS s := by
    unfold epochOf epochS epochR colonS
    simp only [decide_eq_true_eq]
    split <;> rfl
  unfold version_parted.f
  rw [hc]
  simp only [Option.bind_some]
  rw [hrest, hep]
  refine Ev.bind (last_ev (behindS s) 45 (by omega)) ?_
  rw [if_pos (by omega)]
  have hm := minus_bd s
  have e : minusOf (colonS s) (epochS s) (behindS s) (lastN (behindS s) 45 (behindS s).size) = some (epochS s, upS s, revS s, okS s) := by
    change minusOf (colonS s) (epochS s) (behindS s) (minusI s) = _
    unfold minusOf okS upS revS minusS upR revR fin
    by_cases h : 0 ≤ minusI s
    · simp only [if_pos h, if_pos hm, decide_eq_true h]
    · simp only [if_neg h, decide_eq_false h]
      rfl
  rw [e]
  exact Ev.now _

end Go.Proofs.YtmocooihkobdjaaDoor.Ver
