/-
  Plain Lean over the model's own 'Utf8.decode': a predicate over all runes of a text, from a place on; a slot's fact hidden from the walk.
-/
import Derived.Laws.RangeAny
import Derived.Lib.Hide
namespace Go.Proofs.YtmocooihkobdjaaDoor
open Go

/-- A list held against the empty one. -/
theorem listNe {α : Type} [BEq α] (l : List α) : (l != []) = !l.isEmpty := by cases l <;> rfl

/-- Do all runes from place pos on meet p? By at most 'fuel' runes. -/
def runesAll (p : Nat → Bool) (s : ByteArray) : Nat → Nat → Bool
  | 0, _ => true
  | fuel + 1, pos => if pos < s.size then p (Utf8.decode s pos).1 && runesAll p s fuel (pos + (Utf8.decode s pos).2) else true

theorem width_pos (s : ByteArray) (pos : Nat) (h : pos < s.size) : 1 ≤ (Utf8.decode s pos).2 := by
  by_cases ha : (s[pos]'h).toNat < 128
  · rw [decode_ascii s pos h ha]
    exact Nat.le_refl _
  · exact (decode_high s pos h (by omega)).2
theorem runesAll_end (p : Nat → Bool) (s : ByteArray) (fuel pos : Nat) (h : ¬ pos < s.size) : runesAll p s fuel pos = true := by
  cases fuel with
  | zero => rfl
  | succ f => simp [runesAll, h]
theorem runesAll_step (p : Nat → Bool) (s : ByteArray) (fuel pos : Nat) (h : pos < s.size) : runesAll p s (fuel + 1) pos = (p (Utf8.decode s pos).1 && runesAll p s fuel (pos + (Utf8.decode s pos).2)) := by
  simp [runesAll, h]

/-- Where p is false of all beyond ASCII, all runes meet it just if all bytes do. -/
theorem runesAll_bytes (p : Nat → Bool) (hp : ∀ c, 128 ≤ c → p c = false) (s : ByteArray) : ∀ (fuel pos : Nat), s.size ≤ pos + fuel →
    (runesAll p s fuel pos = true ↔ ∀ i (h : i < s.size), pos ≤ i → p (s[i]'h).toNat = true) := by
  intro fuel
  induction fuel with
  | zero =>
    intro pos hf
    exact ⟨fun _ i h hi => by omega, fun _ => rfl⟩
  | succ f ih =>
    intro pos hf
    by_cases hlt : pos < s.size
    · rw [runesAll_step p s f pos hlt]
      by_cases ha : (s[pos]'hlt).toNat < 128
      · rw [decode_ascii s pos hlt ha]
        simp only [Bool.and_eq_true]
        rw [ih (pos + 1) (by omega)]
        constructor
        · rintro ⟨h0, h1⟩ i h hi
          by_cases e : i = pos
          · subst e; exact h0
          · exact h1 i h (by omega)
        · intro h
          exact ⟨h pos hlt (Nat.le_refl _), fun i h' hi => h i h' (by omega)⟩
      · have hb : p (s[pos]'hlt).toNat = false := hp _ (by omega)
        have hd := (decode_high s pos hlt (by omega)).1
        rw [hp _ hd]
        simp only [Bool.false_and, Bool.false_eq_true, false_iff]
        intro h
        rw [h pos hlt (Nat.le_refl _)] at hb
        cases hb
    · rw [runesAll_end p s _ pos hlt]
      exact ⟨fun _ i h hi => by omega, fun _ => rfl⟩
/-! ### a text cut at a place, or not at all -/
def emptyR : ByteArray := ⟨#[]⟩
def epochR (s : ByteArray) (i : Int) : ByteArray := if 0 ≤ i then s.extract 0 i.toNat else emptyR
def restR (s : ByteArray) (i : Int) : ByteArray := if 0 ≤ i then s.extract (i + 1).toNat s.size else s
def upR (s : ByteArray) (i : Int) : ByteArray := if 0 ≤ i then s.extract 0 i.toNat else s
def revR (s : ByteArray) (i : Int) : ByteArray := if 0 ≤ i then s.extract (i + 1).toNat s.size else emptyR
/-- How an operator is written. -/
def wordOf (op : Int) : ByteArray := if op = 1 then ⟨#[60, 60]⟩ else if op = 2 then ⟨#[60, 61]⟩ else if op = 3 then ⟨#[61]⟩ else if op = 4 then ⟨#[62, 61]⟩ else if op = 5 then ⟨#[62, 62]⟩ else ⟨#[]⟩
/-! ### the first rune of a kind -/
/-- Where the first rune that meets p begins, from a place on, among at most 'fuel' runes; -1: none. -/
def runesIdx (p : Nat → Bool) (s : ByteArray) : Nat → Nat → Int
  | 0, _ => -1
  | fuel + 1, pos => if pos < s.size then (if p (Utf8.decode s pos).1 = true then (pos : Int) else runesIdx p s fuel (pos + (Utf8.decode s pos).2)) else -1
theorem runesIdx_end (p : Nat → Bool) (s : ByteArray) (fuel pos : Nat) (h : ¬ pos < s.size) : runesIdx p s fuel pos = -1 := by
  cases fuel with
  | zero => rfl
  | succ f => simp [runesIdx, h]
theorem runesIdx_hit (p : Nat → Bool) (s : ByteArray) (fuel pos : Nat) (h : pos < s.size) (hp : p (Utf8.decode s pos).1 = true) : runesIdx p s (fuel + 1) pos = pos := by
  simp [runesIdx, h, hp]
theorem runesIdx_miss (p : Nat → Bool) (s : ByteArray) (fuel pos : Nat) (h : pos < s.size) (hp : p (Utf8.decode s pos).1 = false) : runesIdx p s (fuel + 1) pos = runesIdx p s fuel (pos + (Utf8.decode s pos).2) := by
  simp [runesIdx, h, hp]
theorem runesIdx_bd (p : Nat → Bool) (s : ByteArray) : ∀ fuel pos, -1 ≤ runesIdx p s fuel pos ∧ runesIdx p s fuel pos ≤ s.size := by
  intro fuel
  induction fuel with
  | zero => intro pos; simp only [runesIdx]; omega
  | succ f ih =>
    intro pos
    rw [runesIdx]
    split
    · split
      · omega
      · exact ih _
    · omega
end Go.Proofs.YtmocooihkobdjaaDoor
