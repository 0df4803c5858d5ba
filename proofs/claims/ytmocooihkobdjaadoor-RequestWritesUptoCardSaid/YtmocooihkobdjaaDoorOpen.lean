/-
  From a reading (DataW.trod) of an argument to the kinds (Kd) of the printed walks: slices of whatever kind of elements; structs of three one-cell fields.
-/
import Derived.Test.YtmocooihkobdjaaDoorWWords
import Derived.Deep.Slices
import Derived.Deep.Strs
import Derived.ChangeArms
namespace Go.Proofs.YtmocooihkobdjaaDoor.Open
open Go Go.RowKit Go.Deep Go.Proofs.YtmocooihkobdjaaDoorW.PrintWords

/-- What reads as a value of type t: its cells hold some y of kind d, and y and the reading fit (Q). -/
def Opens {H α : Type} (enc : TypeId × Value → H) (P : Program) (W : World) (t : TypeId) (d : Kd α) (Q : α → DataW H → Prop) : Prop :=
  ∀ fuel cs x, DataW.trod enc P W 0 (fun _ => true) true fuel t cs = some x → ∃ y, d.K W y cs ∧ Q y x.1

theorem list_of {α : Type} {p : Nat → α → Prop} : ∀ n, (∀ i, i < n → ∃ y, p i y) → ∃ l : List α, l.length = n ∧ ∀ i y, l[i]? = some y → p i y := by
  intro n
  induction n with
  | zero => intro _; exact ⟨[], rfl, fun i y h => by simp at h⟩
  | succ n ih =>
    intro h
    obtain ⟨l, h1, h2⟩ := ih (fun i hi => h i (by omega))
    obtain ⟨y, hy⟩ := h n (by omega)
    refine ⟨l ++ [y], by simp [h1], fun i z hz => ?_⟩
    by_cases hi : i < l.length
    · rw [List.getElem?_append_left hi] at hz
      exact h2 i z hz
    · rw [List.getElem?_append_right (by omega)] at hz
      by_cases e : i - l.length = 0
      · rw [e] at hz
        obtain rfl : y = z := by simpa using hz
        obtain rfl : i = n := by omega
        exact hy
      · obtain ⟨m, hm⟩ : ∃ m, i - l.length = m + 1 := ⟨i - l.length - 1, by omega⟩
        rw [hm] at hz
        simp at hz
/-- A slice's reading. -/
def SliceQ {H α : Type} (Q : α → DataW H → Prop) (l : List α) (x : DataW H) : Prop :=
  (x = .nil ∧ l = []) ∨ ∃ elems spare, x = .slice elems spare ∧ elems.length = l.length ∧ ∀ (i : Nat) (a : α), l[i]? = some a → ∃ b, elems[i]? = some b ∧ Q a b
section
variable {H α : Type} {enc : TypeId × Value → H} {P : Program} {W : World} {t e : TypeId} {d : Kd α} {Q : α → DataW H → Prop}
/-- A slice's cells and reading. -/
theorem slice_cells (ht : P.underlying t = some (.slice e)) (hc : P.cellsOf e = d.sz) (ho : Opens enc P W e d Q) {fuel : Nat} {cs : List Value} {x : DataW H × List MemPlace}
    (h : DataW.trod enc P W 0 (fun _ => true) true fuel t cs = some x) : ∃ (l : List α) (A : Option Addr) (c : Nat), cs = [.slice A l.length c] ∧ l.length ≤ c ∧ d.C W A l.length l ∧ SliceQ Q l x.1 := by
  rcases DataW.trod_slice ht h with ⟨rfl, rfl⟩ | ⟨a, len, cap, elems, rest, n, _, rfl, rfl, _, hl, hm, hlen, hel, _, _⟩
  · exact ⟨[], none, 0, rfl, Nat.le_refl _, ⟨rfl, by simp, fun h => by simp at h⟩, .inl ⟨rfl, rfl⟩⟩
  · have each : ∀ i, i < len → ∃ y, ∃ cs', W.cells? 0 (a.add (i * P.cellsOf e)) (P.cellsOf e) = some cs' ∧ d.K W y cs' ∧ ∃ b, (elems.map (·.1))[i]? = some b ∧ Q y b := by
      intro i hi
      have h1 := hel i hi
      rw [List.getElem?_eq_getElem (by omega)] at h1
      obtain ⟨cs', h2, h3⟩ := Option.bind_eq_some_iff.1 h1
      obtain ⟨y, h4, h5⟩ := ho _ _ _ h3
      exact ⟨y, cs', h2, h4, _, by rw [List.getElem?_map, List.getElem?_eq_getElem (by omega)]; rfl, h5⟩
    obtain ⟨l, l1, l2⟩ := list_of len each
    have hmax : cap ≤ 9223372036854775807 := by unfold maxLen at hm; omega
    subst l1
    refine ⟨l, some a, cap, rfl, hl, ⟨rfl, by omega, fun _ => ⟨a, rfl, fun j p hj => ?_⟩⟩, .inr ⟨_, _, rfl, by rw [List.length_map, hlen], fun i y hy => ?_⟩⟩
    · obtain ⟨cs', c1, c2, _⟩ := l2 j p hj
      obtain ⟨_, c3, c4⟩ := World.cells?_some c1
      refine ⟨cs', by rw [c3, hc], c2, fun i u hu => ?_⟩
      have hi : i < P.cellsOf e := by
        rw [← c3]
        exact (List.getElem?_eq_some_iff.1 hu).1
      have := c4 i hi
      rw [Deep.add_add, hu] at this
      rw [← hc]
      exact this
    · obtain ⟨_, _, _, b, b1, b2⟩ := l2 i y hy
      exact ⟨b, b1, b2⟩
theorem opens_slice (ht : P.underlying t = some (.slice e)) (hc : P.cellsOf e = d.sz) (ho : Opens enc P W e d Q) : Opens enc P W t (Kd.slice e d) (SliceQ Q) := by
  intro fuel cs x h
  obtain ⟨l, A, c, h1, h2, h3, h4⟩ := slice_cells ht hc ho h
  exact ⟨l, ⟨A, c, h1, h2, h3⟩, h4⟩
theorem opens_string (ht : P.underlying t = some .string) : Opens enc P W t Kd.string (fun s x => x = .lit (.string s.data.toList) ∧ s.size ≤ maxLen) := by
  intro fuel cs x h
  obtain ⟨s, rfl, rfl, hs⟩ := DataW.trod_string ht h
  exact ⟨s, rfl, rfl, hs⟩
/-- A sum over a slice's elements is at most the bulk of its reading. -/
theorem slice_sum {bulk : DataW H → Nat} {all : List (DataW H) → Nat} (h0 : bulk .nil = 1) (h1 : ∀ e s, bulk (.slice e s) = all e + all s + 1) (h3 : ∀ d r, all (d :: r) = bulk d + all r)
    {m : α → Nat} (hm : ∀ a b, Q a b → m a ≤ bulk b) {l : List α} {x : DataW H} (h : SliceQ Q l x) : (l.map m).sum + 1 ≤ bulk x := by
  have key : ∀ (l : List α) (elems : List (DataW H)), elems.length = l.length → (∀ (i : Nat) (a : α), l[i]? = some a → ∃ b, elems[i]? = some b ∧ Q a b) → (l.map m).sum ≤ all elems := by
    intro l
    induction l with
    | nil => intro elems _ _; simp
    | cons a l ih =>
      intro elems hl hq
      cases elems with
      | nil => simp at hl
      | cons b elems =>
        rw [h3, List.map_cons, List.sum_cons]
        obtain ⟨b', hb', hab⟩ := hq 0 a rfl
        obtain rfl : b = b' := by simpa using hb'
        have := hm _ _ hab
        have := ih elems (by simpa using hl) (fun i a' h' => hq (i + 1) a' h')
        omega
  rcases h with ⟨rfl, rfl⟩ | ⟨elems, spare, rfl, hl, hq⟩
  · rw [h0]; simp
  · have := key l elems hl hq
    rw [h1]
    omega
end
end Go.Proofs.YtmocooihkobdjaaDoor.Open
