/-
  Plain Lean: relation's reader as a function on lists of bytes, and the program's functions come to it.
-/
import Derived.Test.YtphabealejpfnaaDoorVyVer
import Derived.Laws.StructEq
set_option linter.unusedVariables false
set_option linter.unusedSimpArgs false
namespace Go.Proofs.YtphabealejpfnaaDoor.Model
open Go.RowKit Go.Proofs.YtphabealejpfnaaDoor.V Go.Proofs.YtphabealejpfnaaDoorW.PrintWords Go.Proofs.YtphabealejpfnaaDoorW.PrintLast Go.Proofs.YtphabealejpfnaaDoor.Ver

/-! ### bytes -/
abbrev B := List UInt8
theorem byte_all {P : UInt8 → Prop} (h : ∀ n : Fin 256, P (UInt8.ofNat n.val)) (c : UInt8) : P c := by
  have := h ⟨c.toNat, c.toNat_lt⟩
  simpa using this
def gapB (c : UInt8) : Bool := c == 32 || (c == 9 || c == 10)
def sgnB (c : UInt8) : Bool := c == 44 || (c == 124 || (c == 40 || c == 41))
def mrkB (c : UInt8) : Bool := c == 60 || (c == 61 || c == 62)
def wrdB (c : UInt8) : Bool := !gapB c && !sgnB c
def kd (c : UInt8) : Int := if gapB c = true then 1 else if sgnB c = true then 2 else if mrkB c = true then 3 else 0
def dg (l : B) : B := l.dropWhile gapB
def ofL (l : B) : ByteArray := ⟨l.toArray⟩
def at_ (s : ByteArray) (i : Nat) : B := s.data.toList.drop i
theorem toL_ofL (l : B) : (ofL l).data.toList = l := by simp [ofL]
theorem ofL_toL (s : ByteArray) : ofL s.data.toList = s := by
  obtain ⟨⟨x⟩⟩ := s
  rfl
theorem ofL_size (l : B) : (ofL l).size = l.length := by
  show (ofL l).data.size = _
  simp [ofL]
theorem ofL_list (l : B) : (ofL l).toList = l := by
  rw [ByteArray.toList_eq]
  rfl
theorem at_len (s : ByteArray) (i : Nat) : (at_ s i).length = s.size - i := by
  unfold at_
  rw [List.length_drop]
  rfl
theorem at_lt {s : ByteArray} {i : Nat} (h : i < s.size) : at_ s i = s[i]'h :: at_ s (i + 1) := drop_cons s i h
theorem at_end (s : ByteArray) : at_ s s.size = [] := List.eq_nil_of_length_eq_zero (by rw [at_len]; omega)
theorem at_zero (s : ByteArray) : at_ s 0 = s.data.toList := rfl
theorem at_nil {s : ByteArray} {i : Nat} (hi : i ≤ s.size) (h : at_ s i = []) : i = s.size := by
  have := at_len s i
  rw [h] at this
  simp at this
  omega
theorem at_cons {s : ByteArray} {i : Nat} {c : UInt8} {r : B} (hi : i ≤ s.size) (h : at_ s i = c :: r) : i < s.size ∧ bt s (i : Int) = (c.toNat : Int) ∧ at_ s (i + 1) = r := by
  have hl : i < s.size := by
    have := at_len s i
    rw [h] at this
    simp at this
    omega
  rw [at_lt hl] at h
  injection h with h1 h2
  exact ⟨hl, by rw [bt_eq s i hl, h1], h2⟩
theorem ext_at (s : ByteArray) (i e : Nat) : s.extract (i : Int).toNat (e : Int).toNat = ofL ((at_ s i).take (e - i)) := by
  rw [← ofL_toL (s.extract (i : Int).toNat (e : Int).toNat)]
  congr 1
  rw [ByteArray.data_extract, Array.toList_extract]
  simp [at_, List.extract]
theorem take_tw (p : UInt8 → Bool) (l : B) : l.take (l.takeWhile p).length = l.takeWhile p := by
  conv => lhs; rw [← List.takeWhile_append_dropWhile (p := p) (l := l)]
  rw [List.take_left']
  simp
theorem toNat_inj {c d : UInt8} : ((c.toNat : Int) = (d.toNat : Int)) ↔ c = d :=
  ⟨fun h => Lib.byte_eq_of_toNat h, fun h => by rw [h]⟩

/-! ### what a byte is -/
def kindOf (c : Int) : Int := if c = 32 ∨ c = 9 ∨ c = 10 then 1 else if c = 44 ∨ c = 124 ∨ c = 40 ∨ c = 41 then 2 else if c = 60 ∨ c = 61 ∨ c = 62 then 3 else 0
theorem kindOf_byte : ∀ c : UInt8, kindOf (c.toNat : Int) = kd c := byte_all (by decide +kernel)
theorem kj1_ev (c : Int) (b : Bool) : Ev (fun k => relation_kind.j1 k c b) (if b = true then 2 else if c = 60 ∨ c = 61 ∨ c = 62 then 3 else 0) := by
  refine Ev.step (f := fun _ => some (if b = true then 2 else if c = 60 ∨ c = 61 ∨ c = 62 then 3 else 0)) (fun k => ?_) (Ev.now _)
  simp only [relation_kind.j1]
  repeat' split
  all_goals simp_all
theorem kj0_ev (c : Int) (b : Bool) : Ev (fun k => relation_kind.j0 k c b) (if b = true then 1 else if c = 44 ∨ c = 124 ∨ c = 40 ∨ c = 41 then 2 else if c = 60 ∨ c = 61 ∨ c = 62 then 3 else 0) := by
  refine Ev.step (f := fun k => if b = true then some 1 else relation_kind.j1 k c (decide (c = 44 ∨ c = 124 ∨ c = 40 ∨ c = 41))) (fun k => ?_) ?_
  · simp only [relation_kind.j0]
    by_cases h1 : c = 44
    · subst h1; simp
    by_cases h2 : c = 124
    · subst h2; simp
    by_cases h3 : c = 40
    · subst h3; simp
    · by_cases h4 : c = 41
      · subst h4; simp
      · have h5 : (c == 41) = false := beq_eq_false_iff_ne.2 h4
        simp [h1, h2, h3, h4, h5]
  · cases b with
    | true => simpa using Ev.now _
    | false =>
      have := kj1_ev c (decide (c = 44 ∨ c = 124 ∨ c = 40 ∨ c = 41))
      simpa using this
theorem kind_int (c : Int) : Ev (fun k => relation_kind.f k c) (kindOf c) := by
  have h := kj0_ev c (decide (c = 32 ∨ c = 9 ∨ c = 10))
  have e : (fun k => relation_kind.f k c) = fun k => relation_kind.j0 k c (decide (c = 32 ∨ c = 9 ∨ c = 10)) := by
    funext k
    unfold relation_kind.f
    by_cases h1 : c = 32
    · subst h1; simp
    by_cases h2 : c = 9
    · subst h2; simp
    · by_cases h4 : c = 10
      · subst h4; simp
      · have h5 : (c == 10) = false := beq_eq_false_iff_ne.2 h4
        simp [h1, h2, h4, h5]
  rw [e]
  simpa [kindOf] using h
theorem kind_ev (c : UInt8) : Ev (fun k => relation_kind.f k (c.toNat : Int)) (kd c) := by
  rw [← kindOf_byte]
  exact kind_int _
theorem kd_gap {c : UInt8} : kd c = 1 ↔ gapB c = true := by
  unfold kd
  repeat' split
  all_goals simp_all
theorem kd_stop {c : UInt8} : (kd c = 1 ∨ kd c = 2) ↔ wrdB c = false := by
  unfold kd wrdB
  repeat' split
  all_goals simp_all
theorem kd_mark : ∀ c : UInt8, kd c = 3 ↔ mrkB c = true := byte_all (by decide +kernel)

/-! ### gaps -/
theorem gaps_ev (s : ByteArray) (hs : s.size ≤ 140737488351232) : ∀ (d i : Nat), i + d = s.size → ∃ e : Nat, i ≤ e ∧ e ≤ s.size ∧ at_ s e = dg (at_ s i) ∧ Ev (fun k => relation_reader_gaps.f k s (i : Int)) (s, (e : Int)) := by
  intro d
  unfold relation_reader_gaps.f
  induction d with
  | zero =>
    intro i hi
    refine ⟨i, Nat.le_refl _, by omega, ?_, ?_⟩
    · obtain rfl : i = s.size := by omega
      rw [at_end]; rfl
    · refine Ev.step (f := fun _ => some (s, (i : Int))) (fun k => ?_) (Ev.now _)
      simp only [relation_reader_gaps.l0]
      rw [if_neg (by omega)]
  | succ d ih =>
    intro i hi
    have hl : i < s.size := by omega
    have ew : wrap64 ((i : Int) + 1) = ((i + 1 : Nat) : Int) := by rw [wrap_id (by omega) (by omega)]; omega
    have hstep : ∀ k, relation_reader_gaps.l0 (k + 1) s (i : Int) = (relation_kind.f k ((s[i]'hl).toNat : Int)).bind fun t => if t = 1 then relation_reader_gaps.l0 k s ((i + 1 : Nat) : Int) else some (s, (i : Int)) := by
      intro k
      simp only [relation_reader_gaps.l0]
      rw [if_pos (by omega), if_pos (by omega), ew, bt_eq s i hl]
    rw [at_lt hl]
    by_cases hk : gapB (s[i]'hl) = true
    · obtain ⟨e, h1, h2, h3, h4⟩ := ih (i + 1) (by omega)
      refine ⟨e, by omega, h2, ?_, ?_⟩
      · rw [h3, dg, dg, List.dropWhile_cons, if_pos hk]
      · refine Ev.step hstep ?_
        refine Ev.bind (kind_ev _) ?_
        simp only [if_pos (kd_gap.2 hk)]
        exact h4
    · refine ⟨i, Nat.le_refl _, by omega, ?_, ?_⟩
      · rw [at_lt hl, dg, List.dropWhile_cons, if_neg hk]
      · refine Ev.step hstep ?_
        refine Ev.bind (kind_ev _) ?_
        simp only [if_neg (fun q => hk (kd_gap.1 q))]
        exact Ev.now _

/-! ### runs -/
theorem runstop (s : ByteArray) (st i : Nat) (hs : s.size ≤ 140737488351232) (hi : i < s.size) (hst : st ≤ i) (hk : wrdB (s[i]'hi) = false) :
    Ev (fun k => relation_reader_run.l0 k false (i : Int) s (st : Int)) (s.extract (st : Int).toNat (i : Int).toNat, s, (st : Int)) := by
  refine Ev.step (f := fun k => (relation_kind.f k ((s[i]'hi).toNat : Int)).bind fun t => if t = 1 then some (s.extract (st : Int).toNat (i : Int).toNat, s, (st : Int)) else if t = 2 then some (s.extract (st : Int).toNat (i : Int).toNat, s, (st : Int)) else relation_reader_run.l0 k false (wrap64 ((i : Int) + 1)) s (st : Int)) (fun k => ?_) ?_
  · simp only [relation_reader_run.l0, bt_eq s i hi, if_pos (show (i : Int) < s.size by omega), if_pos (show (0 : Int) ≤ i by omega), if_pos (show (0 : Int) ≤ st by omega), if_pos (show (st : Int) ≤ i by omega), if_pos (show (i : Int) ≤ s.size by omega), Bool.false_eq_true, if_false]
  · refine Ev.bind (kind_ev _) ?_
    rcases kd_stop.2 hk with hk | hk
    · simp only [if_pos hk]; exact Ev.now _
    · simp only [if_neg (show ¬ kd (s[i]'hi) = 1 by omega), if_pos hk]; exact Ev.now _
theorem runstep (s : ByteArray) (st i : Nat) (hs : s.size ≤ 140737488351232) (hi : i < s.size) (hst : st ≤ i) (hk : ¬ wrdB (s[i]'hi) = false) (v : ByteArray × ByteArray × Int)
    (h : Ev (fun k => relation_reader_run.l0 k false ((i + 1 : Nat) : Int) s (st : Int)) v) : Ev (fun k => relation_reader_run.l0 k false (i : Int) s (st : Int)) v := by
  have ew : wrap64 ((i : Int) + 1) = ((i + 1 : Nat) : Int) := by rw [wrap_id (by omega) (by omega)]; omega
  refine Ev.step (f := fun k => (relation_kind.f k ((s[i]'hi).toNat : Int)).bind fun t => if t = 1 then some (s.extract (st : Int).toNat (i : Int).toNat, s, (st : Int)) else if t = 2 then some (s.extract (st : Int).toNat (i : Int).toNat, s, (st : Int)) else relation_reader_run.l0 k false ((i + 1 : Nat) : Int) s (st : Int)) (fun k => ?_) ?_
  · simp only [relation_reader_run.l0, bt_eq s i hi, if_pos (show (i : Int) < s.size by omega), if_pos (show (0 : Int) ≤ i by omega), if_pos (show (0 : Int) ≤ st by omega), if_pos (show (st : Int) ≤ i by omega), if_pos (show (i : Int) ≤ s.size by omega), Bool.false_eq_true, if_false, ew]
  · refine Ev.bind (kind_ev _) ?_
    simp only [if_neg (fun q => hk (kd_stop.1 (.inl q))), if_neg (fun q => hk (kd_stop.1 (.inr q)))]
    exact h
theorem signstop (s : ByteArray) (st i : Nat) (hs : s.size ≤ 140737488351232) (hi : i < s.size) (hst : st ≤ i) (hk : ¬ mrkB (s[i]'hi) = true) :
    Ev (fun k => relation_reader_run.l0 k true (i : Int) s (st : Int)) (s.extract (st : Int).toNat (i : Int).toNat, s, (st : Int)) := by
  refine Ev.step (f := fun k => (relation_kind.f k ((s[i]'hi).toNat : Int)).bind fun t => if t = 3 then (if t = 1 then some (s.extract (st : Int).toNat (i : Int).toNat, s, (st : Int)) else if t = 2 then some (s.extract (st : Int).toNat (i : Int).toNat, s, (st : Int)) else relation_reader_run.l0 k true (wrap64 ((i : Int) + 1)) s (st : Int)) else some (s.extract (st : Int).toNat (i : Int).toNat, s, (st : Int))) (fun k => ?_) ?_
  · simp only [relation_reader_run.l0, bt_eq s i hi, if_pos (show (i : Int) < s.size by omega), if_pos (show (0 : Int) ≤ i by omega), if_pos (show (0 : Int) ≤ st by omega), if_pos (show (st : Int) ≤ i by omega), if_pos (show (i : Int) ≤ s.size by omega), if_true]
  · refine Ev.bind (kind_ev _) ?_
    simp only [if_neg (fun q => hk ((kd_mark _).1 q))]; exact Ev.now _
theorem signstep (s : ByteArray) (st i : Nat) (hs : s.size ≤ 140737488351232) (hi : i < s.size) (hst : st ≤ i) (hk : mrkB (s[i]'hi) = true) (v : ByteArray × ByteArray × Int)
    (h : Ev (fun k => relation_reader_run.l0 k true ((i + 1 : Nat) : Int) s (st : Int)) v) : Ev (fun k => relation_reader_run.l0 k true (i : Int) s (st : Int)) v := by
  have ew : wrap64 ((i : Int) + 1) = ((i + 1 : Nat) : Int) := by rw [wrap_id (by omega) (by omega)]; omega
  have hk := (kd_mark _).2 hk
  refine Ev.step (f := fun k => (relation_kind.f k ((s[i]'hi).toNat : Int)).bind fun t => if t = 3 then (if t = 1 then some (s.extract (st : Int).toNat (i : Int).toNat, s, (st : Int)) else if t = 2 then some (s.extract (st : Int).toNat (i : Int).toNat, s, (st : Int)) else relation_reader_run.l0 k true ((i + 1 : Nat) : Int) s (st : Int)) else some (s.extract (st : Int).toNat (i : Int).toNat, s, (st : Int))) (fun k => ?_) ?_
  · simp only [relation_reader_run.l0, bt_eq s i hi, if_pos (show (i : Int) < s.size by omega), if_pos (show (0 : Int) ≤ i by omega), if_pos (show (0 : Int) ≤ st by omega), if_pos (show (st : Int) ≤ i by omega), if_pos (show (i : Int) ≤ s.size by omega), if_true, ew]
  · refine Ev.bind (kind_ev _) ?_
    simp only [if_pos hk, if_neg (show ¬ kd (s[i]'hi) = 1 by omega), if_neg (show ¬ kd (s[i]'hi) = 2 by omega)]
    exact h
theorem word_ev (s : ByteArray) (st : Nat) (hs : s.size ≤ 140737488351232) : ∀ (d i : Nat), i + d = s.size → st ≤ i → ∃ e : Nat, i ≤ e ∧ e ≤ s.size ∧ at_ s e = (at_ s i).dropWhile wrdB ∧ e - i = ((at_ s i).takeWhile wrdB).length ∧
    Ev (fun k => relation_reader_run.l0 k false (i : Int) s (st : Int)) (s.extract (st : Int).toNat (e : Int).toNat, s, (st : Int)) := by
  intro d
  induction d with
  | zero =>
    intro i hi hst
    obtain rfl : i = s.size := by omega
    refine ⟨s.size, Nat.le_refl _, by omega, by rw [at_end]; rfl, by rw [at_end]; simp, ?_⟩
    refine Ev.step (f := fun _ => some (s.extract (st : Int).toNat (s.size : Int).toNat, s, (st : Int))) (fun k => ?_) (Ev.now _)
    simp only [relation_reader_run.l0]
    rw [if_neg (by omega), if_pos (by omega), if_pos (by omega), if_pos (by omega)]
  | succ d ih =>
    intro i hi hst
    have hl : i < s.size := by omega
    rw [at_lt hl]
    by_cases hk : wrdB (s[i]'hl) = false
    · refine ⟨i, Nat.le_refl _, by omega, ?_, ?_, runstop s st i hs hl hst hk⟩
      · rw [at_lt hl, List.dropWhile_cons, if_neg (by simp [hk])]
      · rw [List.takeWhile_cons, if_neg (by simp [hk])]; simp
    · have hk' : wrdB (s[i]'hl) = true := by simpa using hk
      obtain ⟨e, h1, h2, h3, h4, h5⟩ := ih (i + 1) (by omega) (by omega)
      refine ⟨e, by omega, h2, ?_, ?_, runstep s st i hs hl hst hk _ h5⟩
      · rw [h3, List.dropWhile_cons, if_pos hk']
      · rw [List.takeWhile_cons, if_pos hk', List.length_cons]; omega
theorem sign_ev (s : ByteArray) (st : Nat) (hs : s.size ≤ 140737488351232) : ∀ (d i : Nat), i + d = s.size → st ≤ i → ∃ e : Nat, i ≤ e ∧ e ≤ s.size ∧ at_ s e = (at_ s i).dropWhile mrkB ∧ e - i = ((at_ s i).takeWhile mrkB).length ∧
    Ev (fun k => relation_reader_run.l0 k true (i : Int) s (st : Int)) (s.extract (st : Int).toNat (e : Int).toNat, s, (st : Int)) := by
  intro d
  induction d with
  | zero =>
    intro i hi hst
    obtain rfl : i = s.size := by omega
    refine ⟨s.size, Nat.le_refl _, by omega, by rw [at_end]; rfl, by rw [at_end]; simp, ?_⟩
    refine Ev.step (f := fun _ => some (s.extract (st : Int).toNat (s.size : Int).toNat, s, (st : Int))) (fun k => ?_) (Ev.now _)
    simp only [relation_reader_run.l0]
    rw [if_neg (by omega), if_pos (by omega), if_pos (by omega), if_pos (by omega)]
  | succ d ih =>
    intro i hi hst
    have hl : i < s.size := by omega
    rw [at_lt hl]
    by_cases hk : mrkB (s[i]'hl) = true
    · obtain ⟨e, h1, h2, h3, h4, h5⟩ := ih (i + 1) (by omega) (by omega)
      refine ⟨e, by omega, h2, ?_, ?_, signstep s st i hs hl hst hk _ h5⟩
      · rw [h3, List.dropWhile_cons, if_pos hk]
      · rw [List.takeWhile_cons, if_pos hk, List.length_cons]; omega
    · refine ⟨i, Nat.le_refl _, by omega, ?_, ?_, signstop s st i hs hl hst hk⟩
      · rw [at_lt hl, List.dropWhile_cons, if_neg hk]
      · rw [List.takeWhile_cons, if_neg hk]; simp

/-! ### names and versions -/
def plB (c : UInt8) : Bool := (decide (97 ≤ c) && decide (c ≤ 122)) || (decide (48 ≤ c) && decide (c ≤ 57))
def namB (f : Bool) (c : UInt8) : Bool := plB c || (!f && (c == 43 || (c == 45 || c == 46)))
def nameL : Bool → B → Bool
  | _, [] => true
  | f, c :: l => namB f c && nameL false l
def nameM (l : B) : Bool := nameL true l && decide (1 < l.length)
theorem namB_int (f : Bool) : ∀ c : UInt8, namB f c = decide ((((c.toNat : Int) ≥ 97 ∧ (c.toNat : Int) ≤ 122) ∨ ((c.toNat : Int) ≥ 48 ∧ (c.toNat : Int) ≤ 57)) ∨ (f = false ∧ ((c.toNat : Int) = 43 ∨ (c.toNat : Int) = 45 ∨ (c.toNat : Int) = 46))) := by
  cases f
  · exact byte_all (by decide +kernel)
  · exact byte_all (by decide +kernel)
theorem name_ev (s : ByteArray) (hs : s.size ≤ 140737488351232) : Ev (fun k => relation_Name.f k s) (nameM s.data.toList) := by
  have key : ∀ (d i : Nat), i + d = s.size → Ev (fun k => relation_Name.l0 k s (i : Int)) (nameL (decide (i = 0)) (at_ s i) && decide ((s.size : Int) > 1)) := by
    intro d
    induction d with
    | zero =>
      intro i hi
      obtain rfl : i = s.size := by omega
      rw [at_end]
      refine Ev.step (f := fun _ => some (true && decide ((s.size : Int) > 1))) (fun k => ?_) (Ev.now _)
      simp only [relation_Name.l0]
      rw [if_neg (by omega)]
      rfl
    | succ d ih =>
      intro i hi
      have hl : i < s.size := by omega
      have ew : wrap64 ((i : Int) + 1) = ((i + 1 : Nat) : Int) := by rw [wrap_id (by omega) (by omega)]; omega
      have hp := ih (i + 1) (by omega)
      rw [show decide (i + 1 = 0) = false from decide_eq_false (by omega)] at hp
      have hb := namB_int (decide (i = 0)) (s[i]'hl)
      have ep : ∀ k, relation_Name.l0 (k + 2) s (i : Int) = if namB (decide (i = 0)) (s[i]'hl) = true then relation_Name.l0 k s ((i + 1 : Nat) : Int) else some false := by
        intro k
        simp only [relation_Name.l0, relation_Name.j1, ew, bt_eq s i hl, if_pos (show (i : Int) < s.size by omega), if_pos (show (0 : Int) ≤ i by omega)]
        rw [hb]
        repeat' split
        all_goals first | rfl | (exfalso; simp_all; done) | (exfalso; simp_all; omega)
      rw [at_lt hl, nameL]
      cases hg : namB (decide (i = 0)) (s[i]'hl) with
      | true =>
        rw [Bool.true_and]
        exact Ev.step (f := fun k => relation_Name.l0 (k + 1) s (i : Int)) (fun k => rfl) (Ev.step (f := fun k => relation_Name.l0 k s ((i + 1 : Nat) : Int)) (fun k => by rw [ep, if_pos hg]) hp)
      | false =>
        rw [Bool.false_and, Bool.false_and]
        exact Ev.step (f := fun k => relation_Name.l0 (k + 1) s (i : Int)) (fun k => rfl) (Ev.step (f := fun _ => some false) (fun k => by rw [ep, if_neg (by simp [hg])]) (Ev.now _))
  unfold relation_Name.f
  have h := key s.size 0 (by omega)
  have e : decide ((s.size : Int) > 1) = decide (1 < s.data.toList.length) := by
    have : s.data.toList.length = s.size := by simp
    rw [this]
    exact decide_eq_decide.2 (by omega)
  rw [e] at h
  exact h
theorem plegal_ev (s : ByteArray) (hs : s.size ≤ 140737488351232) : Ev (fun k => version_Legal.f k s) (okS s) := by
  unfold version_Legal.f
  exact Ev.bind (parted_ev s hs) (Ev.now _)

/-! ### one relation -/
def closeM (x : S23) (r : B) : (Int ⊕ S23) × B := match r with
  | [] => (.inl 220, [])
  | c :: r => if c = 41 then (.inr x, dg r) else (.inl 220, c :: r)
def versM (nm : B) (op : Int) (r4 : B) : (Int ⊕ S23) × B :=
  if r4.takeWhile wrdB = [] then (.inl 220, r4) else if okS (ofL (r4.takeWhile wrdB)) = false then (.inl 200, r4) else
  closeM ⟨ofL nm, op, ofL (r4.takeWhile wrdB)⟩ (dg (r4.dropWhile wrdB))
def operM (nm : B) (r3 : B) : (Int ⊕ S23) × B :=
  if opOf (ofL (r3.takeWhile mrkB)) = 0 then (.inl 220, r3) else versM nm (opOf (ofL (r3.takeWhile mrkB))) (dg (r3.dropWhile mrkB))
def openM (nm : B) (r1 : B) : (Int ⊕ S23) × B := match r1 with
  | [] => (.inr ⟨ofL nm, 0, ⟨#[]⟩⟩, [])
  | c :: r => if c = 40 then operM nm (dg r) else (.inr ⟨ofL nm, 0, ⟨#[]⟩⟩, c :: r)
def relM (l : B) : (Int ⊕ S23) × B :=
  if l.takeWhile wrdB = [] then (.inl 220, l) else if nameM (l.takeWhile wrdB) = false then (.inl 230, l) else openM (l.takeWhile wrdB) (dg (l.dropWhile wrdB))
def relOut (s : ByteArray) (e : Int) : Int ⊕ S23 → ByteArray × Int × ByteArray × Int × ByteArray × Int
  | .inl er => noRel er s e
  | .inr x => (x.f0, x.f1, x.f2, 0, s, e)

theorem pass_ev (s : ByteArray) (hs : s.size ≤ 140737488351232) (i n : Nat) (h : i + n ≤ s.size) : ∃ e : Nat, i + n ≤ e ∧ e ≤ s.size ∧ at_ s e = dg (at_ s (i + n)) ∧ Ev (fun k => relation_reader_pass.f k s (i : Int) (n : Int)) (s, (e : Int)) := by
  obtain ⟨e, h1, h2, h3, h4⟩ := gaps_ev s hs (s.size - (i + n)) (i + n) (by omega)
  refine ⟨e, h1, h2, h3, ?_⟩
  unfold relation_reader_pass.f
  have ew : wrap64 ((i : Int) + (n : Int)) = ((i + n : Nat) : Int) := by rw [wrap_id (by omega) (by omega)]; omega
  simp only [ew]
  exact Ev.bind h4 (Ev.now _)
theorem takes_yes (s : ByteArray) (hs : s.size ≤ 140737488351232) (i : Nat) (c : Int) (h : i < s.size) (hc : bt s i = c) : ∃ e : Nat, i < e ∧ e ≤ s.size ∧ at_ s e = dg (at_ s (i + 1)) ∧ Ev (fun k => relation_reader_takes.f k s (i : Int) c) (true, s, (e : Int)) := by
  obtain ⟨e, h1, h2, h3, h4⟩ := pass_ev s hs i 1 (by omega)
  refine ⟨e, by omega, h2, h3, ?_⟩
  unfold relation_reader_takes.f
  simp only [if_neg (show ¬ (i : Int) = s.size by omega), if_pos (show (0 : Int) ≤ i by omega), if_pos (show (i : Int) < s.size by omega), if_pos hc]
  exact Ev.bind h4 (Ev.now _)
theorem takes_no (s : ByteArray) (i : Nat) (c : Int) (hi : i ≤ s.size) (h : i = s.size ∨ ¬ bt s i = c) : Ev (fun k => relation_reader_takes.f k s (i : Int) c) (false, s, (i : Int)) := by
  unfold relation_reader_takes.f
  by_cases he : i = s.size
  · simp only [if_pos (show (i : Int) = s.size by omega)]
    exact Ev.now _
  · have hb : ¬ bt s i = c := h.resolve_left he
    simp only [if_neg (show ¬ (i : Int) = s.size by omega), if_pos (show (0 : Int) ≤ i by omega), if_pos (show (i : Int) < s.size by omega), if_neg hb]
    exact Ev.now _

theorem close_ev (s : ByteArray) (hs : s.size ≤ 140737488351232) (i : Nat) (hi : i ≤ s.size) (x : S23) : ∃ e : Nat, i ≤ e ∧ e ≤ s.size ∧ at_ s e = (closeM x (at_ s i)).2 ∧
    Ev (fun k => (relation_reader_takes.f k s (i : Int) 41).bind fun x8 => if x8.1 = false then some (noRel 220 x8.2.1 x8.2.2) else some (x.f0, x.f1, x.f2, (0 : Int), x8.2.1, x8.2.2)) (relOut s (e : Int) (closeM x (at_ s i)).1) := by
  cases hl : at_ s i with
  | nil =>
    refine ⟨i, Nat.le_refl _, hi, hl, ?_⟩
    refine Ev.bind (takes_no s i 41 hi (.inl (at_nil hi hl))) ?_
    simp only [if_true, closeM, relOut]
    exact Ev.now _
  | cons c r =>
    obtain ⟨h1, h2, h3⟩ := at_cons hi hl
    by_cases hc : c = 41
    · subst hc
      obtain ⟨e, e1, e2, e3, e4⟩ := takes_yes s hs i 41 h1 h2
      refine ⟨e, by omega, e2, by rw [e3, h3]; simp [closeM], ?_⟩
      refine Ev.bind e4 ?_
      simp only [Bool.true_eq_false, if_false, closeM, if_true, relOut]
      exact Ev.now _
    · refine ⟨i, Nat.le_refl _, hi, by rw [hl]; simp [closeM, hc], ?_⟩
      refine Ev.bind (takes_no s i 41 hi (.inr ?_)) ?_
      · rw [h2]
        exact fun q => hc (toNat_inj.1 (show (c.toNat : Int) = ((41 : UInt8).toNat : Int) from q))
      · simp only [if_true, closeM, if_neg hc, relOut]
        exact Ev.now _
theorem vers_ev (s : ByteArray) (hs : s.size ≤ 140737488351232) (i : Nat) (hi : i ≤ s.size) (nm : B) (op : Int) : ∃ e : Nat, i ≤ e ∧ e ≤ s.size ∧ at_ s e = (versM nm op (at_ s i)).2 ∧
    Ev (fun k => (relation_reader_run.f k s (i : Int) false).bind fun x6 => if x6.1.toList = [] then some (noRel 220 x6.2.1 x6.2.2) else
      (version_Legal.f k x6.1).bind fun lg => if lg = false then some (noRel 200 x6.2.1 x6.2.2) else
      (relation_reader_pass.f k x6.2.1 x6.2.2 x6.1.size).bind fun x7 => (relation_reader_takes.f k x7.1 x7.2 41).bind fun x8 => if x8.1 = false then some (noRel 220 x8.2.1 x8.2.2) else some (ofL nm, op, x6.1, (0 : Int), x8.2.1, x8.2.2)) (relOut s (e : Int) (versM nm op (at_ s i)).1) := by
  obtain ⟨x, hx1, hx2, hx3, hx4, hx5⟩ := word_ev s i hs (s.size - i) i (by omega) (Nat.le_refl _)
  have hv : s.extract (i : Int).toNat (x : Int).toNat = ofL ((at_ s i).takeWhile wrdB) := by rw [ext_at, hx4, take_tw]
  rw [hv] at hx5
  have hr : Ev (fun k => relation_reader_run.f k s (i : Int) false) (ofL ((at_ s i).takeWhile wrdB), s, (i : Int)) := hx5
  by_cases e1 : (at_ s i).takeWhile wrdB = []
  · refine ⟨i, Nat.le_refl _, hi, by simp only [versM, if_pos e1], ?_⟩
    refine Ev.bind hr ?_
    simp only [ofL_list, if_pos e1, versM, relOut]
    exact Ev.now _
  have hL := plegal_ev (ofL ((at_ s i).takeWhile wrdB)) (by rw [ofL_size]; omega)
  by_cases e2 : okS (ofL ((at_ s i).takeWhile wrdB)) = false
  · refine ⟨i, Nat.le_refl _, hi, by simp only [versM, if_neg e1, if_pos e2], ?_⟩
    refine Ev.bind hr ?_
    simp only [ofL_list, if_neg e1]
    refine Ev.bind hL ?_
    simp only [if_pos e2, versM, if_neg e1, relOut]
    exact Ev.now _
  obtain ⟨p, hp1, hp2, hp3, hp4⟩ := pass_ev s hs i (x - i) (by omega)
  rw [show i + (x - i) = x by omega, hx3] at hp3
  obtain ⟨e, c1, c2, c3, c4⟩ := close_ev s hs p hp2 ⟨ofL nm, op, ofL ((at_ s i).takeWhile wrdB)⟩
  rw [hp3] at c3 c4
  refine ⟨e, by omega, c2, by rw [c3]; simp only [versM, if_neg e1, if_neg e2], ?_⟩
  refine Ev.bind hr ?_
  simp only [ofL_list, if_neg e1]
  refine Ev.bind hL ?_
  simp only [if_neg e2, versM, if_neg e1, ofL_size, ← hx4]
  exact Ev.bind hp4 c4
theorem oper_ev (s : ByteArray) (hs : s.size ≤ 140737488351232) (i : Nat) (hi : i ≤ s.size) (nm : B) : ∃ e : Nat, i ≤ e ∧ e ≤ s.size ∧ at_ s e = (operM nm (at_ s i)).2 ∧
    Ev (fun k => (relation_reader_run.f k s (i : Int) true).bind fun x4 => if opOf x4.1 = 0 then some (noRel 220 x4.2.1 x4.2.2) else
      (relation_reader_pass.f k x4.2.1 x4.2.2 x4.1.size).bind fun x5 => (relation_reader_run.f k x5.1 x5.2 false).bind fun x6 => if x6.1.toList = [] then some (noRel 220 x6.2.1 x6.2.2) else
      (version_Legal.f k x6.1).bind fun lg => if lg = false then some (noRel 200 x6.2.1 x6.2.2) else
      (relation_reader_pass.f k x6.2.1 x6.2.2 x6.1.size).bind fun x7 => (relation_reader_takes.f k x7.1 x7.2 41).bind fun x8 => if x8.1 = false then some (noRel 220 x8.2.1 x8.2.2) else some (ofL nm, opOf x4.1, x6.1, (0 : Int), x8.2.1, x8.2.2)) (relOut s (e : Int) (operM nm (at_ s i)).1) := by
  obtain ⟨x, hx1, hx2, hx3, hx4, hx5⟩ := sign_ev s i hs (s.size - i) i (by omega) (Nat.le_refl _)
  have hv : s.extract (i : Int).toNat (x : Int).toNat = ofL ((at_ s i).takeWhile mrkB) := by rw [ext_at, hx4, take_tw]
  rw [hv] at hx5
  have hr : Ev (fun k => relation_reader_run.f k s (i : Int) true) (ofL ((at_ s i).takeWhile mrkB), s, (i : Int)) := hx5
  by_cases e1 : opOf (ofL ((at_ s i).takeWhile mrkB)) = 0
  · refine ⟨i, Nat.le_refl _, hi, by simp only [operM, if_pos e1], ?_⟩
    refine Ev.bind hr ?_
    simp only [if_pos e1, operM, relOut]
    exact Ev.now _
  obtain ⟨p, hp1, hp2, hp3, hp4⟩ := pass_ev s hs i (x - i) (by omega)
  rw [show i + (x - i) = x by omega, hx3] at hp3
  obtain ⟨e, c1, c2, c3, c4⟩ := vers_ev s hs p hp2 nm (opOf (ofL ((at_ s i).takeWhile mrkB)))
  rw [hp3] at c3 c4
  refine ⟨e, by omega, c2, by rw [c3]; simp only [operM, if_neg e1], ?_⟩
  refine Ev.bind hr ?_
  simp only [if_neg e1, operM, ofL_size, ← hx4]
  exact Ev.bind hp4 c4
/-- The relation that begins at a place. -/
theorem rel_ev (s : ByteArray) (hs : s.size ≤ 140737488351232) (i : Nat) (hi : i ≤ s.size) : ∃ e : Nat, i ≤ e ∧ e ≤ s.size ∧ at_ s e = (relM (at_ s i)).2 ∧
    Ev (fun k => relation_reader_relation.f k s (i : Int)) (relOut s (e : Int) (relM (at_ s i)).1) := by
  obtain ⟨x, hx1, hx2, hx3, hx4, hx5⟩ := word_ev s i hs (s.size - i) i (by omega) (Nat.le_refl _)
  have hv : s.extract (i : Int).toNat (x : Int).toNat = ofL ((at_ s i).takeWhile wrdB) := by rw [ext_at, hx4, take_tw]
  rw [hv] at hx5
  have hr : Ev (fun k => relation_reader_run.f k s (i : Int) false) (ofL ((at_ s i).takeWhile wrdB), s, (i : Int)) := hx5
  unfold relation_reader_relation.f
  by_cases e1 : (at_ s i).takeWhile wrdB = []
  · refine ⟨i, Nat.le_refl _, hi, by simp only [relM, if_pos e1], ?_⟩
    refine Ev.bind hr ?_
    simp only [ofL_list, if_pos e1, relM, relOut]
    exact Ev.now _
  have hN := name_ev (ofL ((at_ s i).takeWhile wrdB)) (by rw [ofL_size]; omega)
  rw [toL_ofL] at hN
  by_cases e2 : nameM ((at_ s i).takeWhile wrdB) = false
  · refine ⟨i, Nat.le_refl _, hi, by simp only [relM, if_neg e1, if_pos e2], ?_⟩
    refine Ev.bind hr ?_
    simp only [ofL_list, if_neg e1]
    refine Ev.bind hN ?_
    simp only [if_pos e2, relM, if_neg e1, relOut]
    exact Ev.now _
  obtain ⟨p, hp1, hp2, hp3, hp4⟩ := pass_ev s hs i (x - i) (by omega)
  rw [show i + (x - i) = x by omega, hx3] at hp3
  have hP : ∀ {v}, Ev (fun k => (relation_reader_takes.f k s (p : Int) 40).bind fun x3 => if x3.1 = false then some (ofL ((at_ s i).takeWhile wrdB), 0, ⟨#[]⟩, 0, x3.2.1, x3.2.2) else
      (relation_reader_run.f k x3.2.1 x3.2.2 true).bind fun x4 => if opOf x4.1 = 0 then some (noRel 220 x4.2.1 x4.2.2) else
      (relation_reader_pass.f k x4.2.1 x4.2.2 x4.1.size).bind fun x5 => (relation_reader_run.f k x5.1 x5.2 false).bind fun x6 => if x6.1.toList = [] then some (noRel 220 x6.2.1 x6.2.2) else
      (version_Legal.f k x6.1).bind fun lg => if lg = false then some (noRel 200 x6.2.1 x6.2.2) else
      (relation_reader_pass.f k x6.2.1 x6.2.2 x6.1.size).bind fun x7 => (relation_reader_takes.f k x7.1 x7.2 41).bind fun x8 => if x8.1 = false then some (noRel 220 x8.2.1 x8.2.2) else some (ofL ((at_ s i).takeWhile wrdB), opOf x4.1, x6.1, 0, x8.2.1, x8.2.2)) v →
      Ev (fun k => (relation_reader_run.f k s (i : Int) false).bind fun x1 => if x1.1.toList = [] then some (noRel 220 x1.2.1 x1.2.2) else
      (relation_Name.f k x1.1).bind fun nm => if nm = false then some (noRel 230 x1.2.1 x1.2.2) else
      (relation_reader_pass.f k x1.2.1 x1.2.2 x1.1.size).bind fun x2 => (relation_reader_takes.f k x2.1 x2.2 40).bind fun x3 => if x3.1 = false then some (x1.1, 0, ⟨#[]⟩, 0, x3.2.1, x3.2.2) else
      (relation_reader_run.f k x3.2.1 x3.2.2 true).bind fun x4 => if opOf x4.1 = 0 then some (noRel 220 x4.2.1 x4.2.2) else
      (relation_reader_pass.f k x4.2.1 x4.2.2 x4.1.size).bind fun x5 => (relation_reader_run.f k x5.1 x5.2 false).bind fun x6 => if x6.1.toList = [] then some (noRel 220 x6.2.1 x6.2.2) else
      (version_Legal.f k x6.1).bind fun lg => if lg = false then some (noRel 200 x6.2.1 x6.2.2) else
      (relation_reader_pass.f k x6.2.1 x6.2.2 x6.1.size).bind fun x7 => (relation_reader_takes.f k x7.1 x7.2 41).bind fun x8 => if x8.1 = false then some (noRel 220 x8.2.1 x8.2.2) else some (x1.1, opOf x4.1, x6.1, 0, x8.2.1, x8.2.2)) v := by
    intro v h
    refine Ev.bind hr ?_
    simp only [ofL_list, if_neg e1]
    refine Ev.bind hN ?_
    simp only [if_neg e2, ofL_size, ← hx4]
    exact Ev.bind hp4 h
  have eM : relM (at_ s i) = openM ((at_ s i).takeWhile wrdB) (at_ s p) := by
    rw [hp3]
    simp only [relM, if_neg e1, if_neg e2]
  rw [eM]
  clear hr hN hp4
  cases hl : at_ s p with
  | nil =>
    refine ⟨p, by omega, hp2, hl, hP ?_⟩
    refine Ev.bind (takes_no s p 40 hp2 (.inl (at_nil hp2 hl))) ?_
    simp only [if_true, openM, relOut]
    exact Ev.now _
  | cons c r =>
    obtain ⟨h1, h2, h3⟩ := at_cons hp2 hl
    by_cases hc : c = 40
    · subst hc
      obtain ⟨q, q1, q2, q3, q4⟩ := takes_yes s hs p 40 h1 h2
      rw [h3] at q3
      obtain ⟨e, c1, c2, c3, c4⟩ := oper_ev s hs q q2 ((at_ s i).takeWhile wrdB)
      rw [q3] at c3 c4
      refine ⟨e, by omega, c2, by rw [c3]; simp only [openM, if_true], hP ?_⟩
      refine Ev.bind q4 ?_
      simp only [Bool.true_eq_false, if_false, openM, if_true]
      exact c4
    · refine ⟨p, by omega, hp2, by rw [hl]; simp only [openM, if_neg hc], hP ?_⟩
      refine Ev.bind (takes_no s p 40 hp2 (.inr ?_)) ?_
      · rw [h2]
        exact fun q => hc (toNat_inj.1 (show (c.toNat : Int) = ((40 : UInt8).toNat : Int) from q))
      · simp only [if_true, openM, if_neg hc, relOut]
        exact Ev.now _
end Go.Proofs.YtphabealejpfnaaDoor.Model
