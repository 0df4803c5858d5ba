/-
  Plain Lean: texts as lists of bytes; names and legal versions as the program tells them.
-/
import Derived.Test.YtmocooihkobdjaaDoorByVer
import Derived.Laws.StructEq
set_option linter.unusedVariables false
set_option linter.unusedSimpArgs false
namespace Go.Proofs.YtmocooihkobdjaaDoor.Model
open Go.RowKit Go.Proofs.YtmocooihkobdjaaDoor.B Go.Proofs.YtmocooihkobdjaaDoorW.PrintWords Go.Proofs.YtmocooihkobdjaaDoorW.PrintLast Go.Proofs.YtmocooihkobdjaaDoor.Ver

/-! ### bytes -/
abbrev B := List UInt8
theorem byte_all {P : UInt8 → Prop} (h : ∀ n : Fin 256, P (UInt8.ofNat n.val)) (c : UInt8) : P c := by
  have := h ⟨c.toNat, c.toNat_lt⟩
  simpa using this
def gapB (c : UInt8) : Bool := c == 32 || (c == 9 || c == 10)
def sgnB (c : UInt8) : Bool := c == 44 || (c == 124 || (c == 40 || c == 41))
def mrkB (c : UInt8) : Bool := c == 60 || (c == 61 || c == 62)
def wrdB (c : UInt8) : Bool := !gapB c && !sgnB c
def kd (c : UInt8) : Int := if gapB c = true then 1 else if sgnB c = true then 2 else if mrkB c = true then 3 else 0
def dg (l : B) : B := l.dropWhile gapB
def ofL (l : B) : ByteArray := ⟨l.toArray⟩
def at_ (s : ByteArray) (i : Nat) : B := s.data.toList.drop i
theorem toL_ofL (l : B) : (ofL l).data.toList = l := by simp [ofL]
theorem ofL_toL (s : ByteArray) : ofL s.data.toList = s := by
  obtain ⟨⟨x⟩⟩ := s
  rfl
theorem ofL_size (l : B) : (ofL l).size = l.length := by
  show (ofL l).data.size = _
  simp [ofL]
theorem ofL_list (l : B) : (ofL l).toList = l := by
  rw [ByteArray.toList_eq]
  rfl
theorem at_len (s : ByteArray) (i : Nat) : (at_ s i).length = s.size - i := by
  unfold at_
  rw [List.length_drop]
  rfl
theorem at_lt {s : ByteArray} {i : Nat} (h : i < s.size) : at_ s i = s[i]'h :: at_ s (i + 1) := drop_cons s i h
theorem at_end (s : ByteArray) : at_ s s.size = [] := List.eq_nil_of_length_eq_zero (by rw [at_len]; omega)
theorem at_zero (s : ByteArray) : at_ s 0 = s.data.toList := rfl
theorem at_nil {s : ByteArray} {i : Nat} (hi : i ≤ s.size) (h : at_ s i = []) : i = s.size := by
  have := at_len s i
  rw [h] at this
  simp at this
  omega
theorem at_cons {s : ByteArray} {i : Nat} {c : UInt8} {r : B} (hi : i ≤ s.size) (h : at_ s i = c :: r) : i < s.size ∧ bt s (i : Int) = (c.toNat : Int) ∧ at_ s (i + 1) = r := by
  have hl : i < s.size := by
    have := at_len s i
    rw [h] at this
    simp at this
    omega
  rw [at_lt hl] at h
  injection h with h1 h2
  exact ⟨hl, by rw [bt_eq s i hl, h1], h2⟩
theorem ext_at (s : ByteArray) (i e : Nat) : s.extract (i : Int).toNat (e : Int).toNat = ofL ((at_ s i).take (e - i)) := by
  rw [← ofL_toL (s.extract (i : Int).toNat (e : Int).toNat)]
  congr 1
  rw [ByteArray.data_extract, Array.toList_extract]
  simp [at_, List.extract]
theorem take_tw (p : UInt8 → Bool) (l : B) : l.take (l.takeWhile p).length = l.takeWhile p := by
  conv => lhs; rw [← List.takeWhile_append_dropWhile (p := p) (l := l)]
  rw [List.take_left']
  simp
theorem toNat_inj {c d : UInt8} : ((c.toNat : Int) = (d.toNat : Int)) ↔ c = d :=
  ⟨fun h => Lib.byte_eq_of_toNat h, fun h => by rw [h]⟩

/-! ### names and versions -/
def plB (c : UInt8) : Bool := (decide (97 ≤ c) && decide (c ≤ 122)) || (decide (48 ≤ c) && decide (c ≤ 57))
def namB (f : Bool) (c : UInt8) : Bool := plB c || (!f && (c == 43 || (c == 45 || c == 46)))
def nameL : Bool → B → Bool
  | _, [] => true
  | f, c :: l => namB f c && nameL false l
def nameM (l : B) : Bool := nameL true l && decide (1 < l.length)
theorem namB_int (f : Bool) : ∀ c : UInt8, namB f c = decide ((((c.toNat : Int) ≥ 97 ∧ (c.toNat : Int) ≤ 122) ∨ ((c.toNat : Int) ≥ 48 ∧ (c.toNat : Int) ≤ 57)) ∨ (f = false ∧ ((c.toNat : Int) = 43 ∨ (c.toNat : Int) = 45 ∨ (c.toNat : Int) = 46))) := by
  cases f
  · exact byte_all (by decide +kernel)
  · exact byte_all (by decide +kernel)
theorem name_ev (s : ByteArray) (hs : s.size ≤ 140737488351232) : Ev (fun k => relation_Name.f k s) (nameM s.data.toList) := by
  have key : ∀ (d i : Nat), i + d = s.size → Ev (fun k => relation_Name.l0 k s (i : Int)) (nameL (decide (i = 0)) (at_ s i) && decide ((s.size : Int) > 1)) := by
    intro d
    induction d with
    | zero =>
      intro i hi
      obtain rfl : i = s.size := by omega
      rw [at_end]
      refine Ev.step (f := fun _ => some (true && decide ((s.size : Int) > 1))) (fun k => ?_) (Ev.now _)
      simp only [relation_Name.l0]
      rw [if_neg (by omega)]
      rfl
    | succ d ih =>
      intro i hi
      have hl : i < s.size := by omega
      have ew : wrap64 ((i : Int) + 1) = ((i + 1 : Nat) : Int) := by rw [wrap_id (by omega) (by omega)]; omega
      have hp := ih (i + 1) (by omega)
      rw [show decide (i + 1 = 0) = false from decide_eq_false (by omega)] at hp
      have hb := namB_int (decide (i = 0)) (s[i]'hl)
      have ep : ∀ k, relation_Name.l0 (k + 2) s (i : Int) = if namB (decide (i = 0)) (s[i]'hl) = true then relation_Name.l0 k s ((i + 1 : Nat) : Int) else some false := by
        intro k
        simp only [relation_Name.l0, relation_Name.j1, ew, bt_eq s i hl, if_pos (show (i : Int) < s.size by omega), if_pos (show (0 : Int) ≤ i by omega)]
        rw [hb]
        repeat' split
        all_goals first | rfl | (exfalso; simp_all; done) | (exfalso; simp_all; omega)
      rw [at_lt hl, nameL]
      cases hg : namB (decide (i = 0)) (s[i]'hl) with
      | true =>
        rw [Bool.true_and]
        exact Ev.step (f := fun k => relation_Name.l0 (k + 1) s (i : Int)) (fun k => rfl) (Ev.step (f := fun k => relation_Name.l0 k s ((i + 1 : Nat) : Int)) (fun k => by rw [ep, if_pos hg]) hp)
      | false =>
        rw [Bool.false_and, Bool.false_and]
        exact Ev.step (f := fun k => relation_Name.l0 (k + 1) s (i : Int)) (fun k => rfl) (Ev.step (f := fun _ => some false) (fun k => by rw [ep, if_neg (by simp [hg])]) (Ev.now _))
  unfold relation_Name.f
  have h := key s.size 0 (by omega)
  have e : decide ((s.size : Int) > 1) = decide (1 < s.data.toList.length) := by
    have : s.data.toList.length = s.size := by simp
    rw [this]
    exact decide_eq_decide.2 (by omega)
  rw [e] at h
  exact h
theorem plegal_ev (s : ByteArray) (hs : s.size ≤ 140737488351232) : Ev (fun k => version_Legal.f k s) (okS s) := by
  unfold version_Legal.f
  exact Ev.bind (parted_ev s hs) (Ev.now _)

end Go.Proofs.YtmocooihkobdjaaDoor.Model
