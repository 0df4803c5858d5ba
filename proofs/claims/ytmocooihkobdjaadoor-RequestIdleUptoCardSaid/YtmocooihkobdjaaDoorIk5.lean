/- RequestIdle (P24.5): idle lines put in anywhere, and blanks at the lines ends, change nothing; for requests and lists of a bulk of at most 2^20. -/
import Derived.Lib.Join
import Derived.Lib.SplitLaws
import Derived.Lib.IndexBytes
import Derived.Lib.IndexAny
import Derived.Lib.SlTrimSet
import Derived.KernelRfl
import Derived.Lib.IndexLaws
import Derived.Deep.Slices
import Derived.Deep.Strs
import Derived.ChangeArms
import Derived.Test.YtmocooihkobdjaaDoorRows
import Derived.Lib.SmallJoins
import Derived.WideShapes
import Derived.ChangeSame
import Derived.Below
import Derived.SizedLaws
import Derived.ShutString
import Derived.ChangeOld
import Derived.Carry
import Derived.Test.YtmocooihkobdjaaDoorIk0
import Derived.Test.YtmocooihkobdjaaDoorIk1
import Derived.Test.YtmocooihkobdjaaDoorIk4
section
set_option linter.unusedVariables false
set_option linter.unusedSimpArgs false
namespace Go.Proofs.YtmocooihkobdjaaDoor.Model
open Go.RowKit Go.Proofs.YtmocooihkobdjaaDoor.I Go.Proofs.YtmocooihkobdjaaDoorW.PrintWords Go.Proofs.YtmocooihkobdjaaDoorW.PrintLast Go.Proofs.YtmocooihkobdjaaDoor.Ver
def kindOf (c : Int) : Int := if c = 32 ∨ c = 9 ∨ c = 10 then 1 else if c = 44 ∨ c = 124 ∨ c = 40 ∨ c = 41 then 2 else if c = 60 ∨ c = 61 ∨ c = 62 then 3 else 0
theorem kindOf_byte : ∀ c : UInt8, kindOf (c.toNat : Int) = kd c := byte_all (by decide +kernel)
theorem kj1_ev (c : Int) (b : Bool) : Ev (fun k => relation_kind.j1 k c b) (if b = true then 2 else if c = 60 ∨ c = 61 ∨ c = 62 then 3 else 0) := by
  refine Ev.step (f := fun _ => some (if b = true then 2 else if c = 60 ∨ c = 61 ∨ c = 62 then 3 else 0)) (fun k => ?_) (Ev.now _)
  simp only [relation_kind.j1]
  repeat' split
  all_goals simp_all
theorem kj0_ev (c : Int) (b : Bool) : Ev (fun k => relation_kind.j0 k c b) (if b = true then 1 else if c = 44 ∨ c = 124 ∨ c = 40 ∨ c = 41 then 2 else if c = 60 ∨ c = 61 ∨ c = 62 then 3 else 0) := by
  refine Ev.step (f := fun k => if b = true then some 1 else relation_kind.j1 k c (decide (c = 44 ∨ c = 124 ∨ c = 40 ∨ c = 41))) (fun k => ?_) ?_
  · simp only [relation_kind.j0]
    by_cases h1 : c = 44
    · subst h1; simp
    by_cases h2 : c = 124
    · subst h2; simp
    by_cases h3 : c = 40
    · subst h3; simp
    · by_cases h4 : c = 41
      · subst h4; simp
      · have h5 : (c == 41) = false := beq_eq_false_iff_ne.2 h4
        simp [h1, h2, h3, h4, h5]
  · cases b with
    | true => simpa using Ev.now _
    | false =>
      have := kj1_ev c (decide (c = 44 ∨ c = 124 ∨ c = 40 ∨ c = 41))
      simpa using this
theorem kind_int (c : Int) : Ev (fun k => relation_kind.f k c) (kindOf c) := by
  have h := kj0_ev c (decide (c = 32 ∨ c = 9 ∨ c = 10))
  have e : (fun k => relation_kind.f k c) = fun k => relation_kind.j0 k c (decide (c = 32 ∨ c = 9 ∨ c = 10)) := by
    funext k
    unfold relation_kind.f
    by_cases h1 : c = 32
    · subst h1; simp
    by_cases h2 : c = 9
    · subst h2; simp
    · by_cases h4 : c = 10
      · subst h4; simp
      · have h5 : (c == 10) = false := beq_eq_false_iff_ne.2 h4
        simp [h1, h2, h4, h5]
  rw [e]
  simpa [kindOf] using h
theorem kind_ev (c : UInt8) : Ev (fun k => relation_kind.f k (c.toNat : Int)) (kd c) := by
  rw [← kindOf_byte]
  exact kind_int _
theorem kd_gap {c : UInt8} : kd c = 1 ↔ gapB c = true := by
  unfold kd
  repeat' split
  all_goals simp_all
theorem kd_stop {c : UInt8} : (kd c = 1 ∨ kd c = 2) ↔ wrdB c = false := by
  unfold kd wrdB
  repeat' split
  all_goals simp_all
theorem kd_mark : ∀ c : UInt8, kd c = 3 ↔ mrkB c = true := byte_all (by decide +kernel)
theorem gaps_ev (s : ByteArray) (hs : s.size ≤ 140737488351232) : ∀ (d i : Nat), i + d = s.size → ∃ e : Nat, i ≤ e ∧ e ≤ s.size ∧ at_ s e = dg (at_ s i) ∧ Ev (fun k => relation_reader_gaps.f k s (i : Int)) (s, (e : Int)) := by
  intro d
  unfold relation_reader_gaps.f
  induction d with
  | zero =>
    intro i hi
    refine ⟨i, Nat.le_refl _, by omega, ?_, ?_⟩
    · obtain rfl : i = s.size := by omega
      rw [at_end]; rfl
    · refine Ev.step (f := fun _ => some (s, (i : Int))) (fun k => ?_) (Ev.now _)
      simp only [relation_reader_gaps.l0]
      rw [if_neg (by omega)]
  | succ d ih =>
    intro i hi
    have hl : i < s.size := by omega
    have ew : wrap64 ((i : Int) + 1) = ((i + 1 : Nat) : Int) := by rw [wrap_id (by omega) (by omega)]; omega
    have hstep : ∀ k, relation_reader_gaps.l0 (k + 1) s (i : Int) = (relation_kind.f k ((s[i]'hl).toNat : Int)).bind fun t => if t = 1 then relation_reader_gaps.l0 k s ((i + 1 : Nat) : Int) else some (s, (i : Int)) := by
      intro k
      simp only [relation_reader_gaps.l0]
      rw [if_pos (by omega), if_pos (by omega), ew, bt_eq s i hl]
    rw [at_lt hl]
    by_cases hk : gapB (s[i]'hl) = true
    · obtain ⟨e, h1, h2, h3, h4⟩ := ih (i + 1) (by omega)
      refine ⟨e, by omega, h2, ?_, ?_⟩
      · rw [h3, dg, dg, List.dropWhile_cons, if_pos hk]
      · refine Ev.step hstep ?_
        refine Ev.bind (kind_ev _) ?_
        simp only [if_pos (kd_gap.2 hk)]
        exact h4
    · refine ⟨i, Nat.le_refl _, by omega, ?_, ?_⟩
      · rw [at_lt hl, dg, List.dropWhile_cons, if_neg hk]
      · refine Ev.step hstep ?_
        refine Ev.bind (kind_ev _) ?_
        simp only [if_neg (fun q => hk (kd_gap.1 q))]
        exact Ev.now _
theorem runstop (s : ByteArray) (st i : Nat) (hs : s.size ≤ 140737488351232) (hi : i < s.size) (hst : st ≤ i) (hk : wrdB (s[i]'hi) = false) :
    Ev (fun k => relation_reader_run.l0 k false (i : Int) s (st : Int)) (s.extract (st : Int).toNat (i : Int).toNat, s, (st : Int)) := by
  refine Ev.step (f := fun k => (relation_kind.f k ((s[i]'hi).toNat : Int)).bind fun t => if t = 1 then some (s.extract (st : Int).toNat (i : Int).toNat, s, (st : Int)) else if t = 2 then some (s.extract (st : Int).toNat (i : Int).toNat, s, (st : Int)) else relation_reader_run.l0 k false (wrap64 ((i : Int) + 1)) s (st : Int)) (fun k => ?_) ?_
  · simp only [relation_reader_run.l0, bt_eq s i hi, if_pos (show (i : Int) < s.size by omega), if_pos (show (0 : Int) ≤ i by omega), if_pos (show (0 : Int) ≤ st by omega), if_pos (show (st : Int) ≤ i by omega), if_pos (show (i : Int) ≤ s.size by omega), Bool.false_eq_true, if_false]
  · refine Ev.bind (kind_ev _) ?_
    rcases kd_stop.2 hk with hk | hk
    · simp only [if_pos hk]; exact Ev.now _
    · simp only [if_neg (show ¬ kd (s[i]'hi) = 1 by omega), if_pos hk]; exact Ev.now _
theorem runstep (s : ByteArray) (st i : Nat) (hs : s.size ≤ 140737488351232) (hi : i < s.size) (hst : st ≤ i) (hk : ¬ wrdB (s[i]'hi) = false) (v : ByteArray × ByteArray × Int)
    (h : Ev (fun k => relation_reader_run.l0 k false ((i + 1 : Nat) : Int) s (st : Int)) v) : Ev (fun k => relation_reader_run.l0 k false (i : Int) s (st : Int)) v := by
  have ew : wrap64 ((i : Int) + 1) = ((i + 1 : Nat) : Int) := by rw [wrap_id (by omega) (by omega)]; omega
  refine Ev.step (f := fun k => (relation_kind.f k ((s[i]'hi).toNat : Int)).bind fun t => if t = 1 then some (s.extract (st : Int).toNat (i : Int).toNat, s, (st : Int)) else if t = 2 then some (s.extract (st : Int).toNat (i : Int).toNat, s, (st : Int)) else relation_reader_run.l0 k false ((i + 1 : Nat) : Int) s (st : Int)) (fun k => ?_) ?_
  · simp only [relation_reader_run.l0, bt_eq s i hi, if_pos (show (i : Int) < s.size by omega), if_pos (show (0 : Int) ≤ i by omega), if_pos (show (0 : Int) ≤ st by omega), if_pos (show (st : Int) ≤ i by omega), if_pos (show (i : Int) ≤ s.size by omega), Bool.false_eq_true, if_false, ew]
  · refine Ev.bind (kind_ev _) ?_
    simp only [if_neg (fun q => hk (kd_stop.1 (.inl q))), if_neg (fun q => hk (kd_stop.1 (.inr q)))]
    exact h
theorem signstop (s : ByteArray) (st i : Nat) (hs : s.size ≤ 140737488351232) (hi : i < s.size) (hst : st ≤ i) (hk : ¬ mrkB (s[i]'hi) = true) :
    Ev (fun k => relation_reader_run.l0 k true (i : Int) s (st : Int)) (s.extract (st : Int).toNat (i : Int).toNat, s, (st : Int)) := by
  refine Ev.step (f := fun k => (relation_kind.f k ((s[i]'hi).toNat : Int)).bind fun t => if t = 3 then (if t = 1 then some (s.extract (st : Int).toNat (i : Int).toNat, s, (st : Int)) else if t = 2 then some (s.extract (st : Int).toNat (i : Int).toNat, s, (st : Int)) else relation_reader_run.l0 k true (wrap64 ((i : Int) + 1)) s (st : Int)) else some (s.extract (st : Int).toNat (i : Int).toNat, s, (st : Int))) (fun k => ?_) ?_
  · simp only [relation_reader_run.l0, bt_eq s i hi, if_pos (show (i : Int) < s.size by omega), if_pos (show (0 : Int) ≤ i by omega), if_pos (show (0 : Int) ≤ st by omega), if_pos (show (st : Int) ≤ i by omega), if_pos (show (i : Int) ≤ s.size by omega), if_true]
  · refine Ev.bind (kind_ev _) ?_
    simp only [if_neg (fun q => hk ((kd_mark _).1 q))]; exact Ev.now _
theorem signstep (s : ByteArray) (st i : Nat) (hs : s.size ≤ 140737488351232) (hi : i < s.size) (hst : st ≤ i) (hk : mrkB (s[i]'hi) = true) (v : ByteArray × ByteArray × Int)
    (h : Ev (fun k => relation_reader_run.l0 k true ((i + 1 : Nat) : Int) s (st : Int)) v) : Ev (fun k => relation_reader_run.l0 k true (i : Int) s (st : Int)) v := by
  have ew : wrap64 ((i : Int) + 1) = ((i + 1 : Nat) : Int) := by rw [wrap_id (by omega) (by omega)]; omega
  have hk := (kd_mark _).2 hk
  refine Ev.step (f := fun k => (relation_kind.f k ((s[i]'hi).toNat : Int)).bind fun t => if t = 3 then (if t = 1 then some (s.extract (st : Int).toNat (i : Int).toNat, s, (st : Int)) else if t = 2 then some (s.extract (st : Int).toNat (i : Int).toNat, s, (st : Int)) else relation_reader_run.l0 k true ((i + 1 : Nat) : Int) s (st : Int)) else some (s.extract (st : Int).toNat (i : Int).toNat, s, (st : Int))) (fun k => ?_) ?_
  · simp only [relation_reader_run.l0, bt_eq s i hi, if_pos (show (i : Int) < s.size by omega), if_pos (show (0 : Int) ≤ i by omega), if_pos (show (0 : Int) ≤ st by omega), if_pos (show (st : Int) ≤ i by omega), if_pos (show (i : Int) ≤ s.size by omega), if_true, ew]
  · refine Ev.bind (kind_ev _) ?_
    simp only [if_pos hk, if_neg (show ¬ kd (s[i]'hi) = 1 by omega), if_neg (show ¬ kd (s[i]'hi) = 2 by omega)]
    exact h
theorem word_ev (s : ByteArray) (st : Nat) (hs : s.size ≤ 140737488351232) : ∀ (d i : Nat), i + d = s.size → st ≤ i → ∃ e : Nat, i ≤ e ∧ e ≤ s.size ∧ at_ s e = (at_ s i).dropWhile wrdB ∧ e - i = ((at_ s i).takeWhile wrdB).length ∧
    Ev (fun k => relation_reader_run.l0 k false (i : Int) s (st : Int)) (s.extract (st : Int).toNat (e : Int).toNat, s, (st : Int)) := by
  intro d
  induction d with
  | zero =>
    intro i hi hst
    obtain rfl : i = s.size := by omega
    refine ⟨s.size, Nat.le_refl _, by omega, by rw [at_end]; rfl, by rw [at_end]; simp, ?_⟩
    refine Ev.step (f := fun _ => some (s.extract (st : Int).toNat (s.size : Int).toNat, s, (st : Int))) (fun k => ?_) (Ev.now _)
    simp only [relation_reader_run.l0]
    rw [if_neg (by omega), if_pos (by omega), if_pos (by omega), if_pos (by omega)]
  | succ d ih =>
    intro i hi hst
    have hl : i < s.size := by omega
    rw [at_lt hl]
    by_cases hk : wrdB (s[i]'hl) = false
    · refine ⟨i, Nat.le_refl _, by omega, ?_, ?_, runstop s st i hs hl hst hk⟩
      · rw [at_lt hl, List.dropWhile_cons, if_neg (by simp [hk])]
      · rw [List.takeWhile_cons, if_neg (by simp [hk])]; simp
    · have hk' : wrdB (s[i]'hl) = true := by simpa using hk
      obtain ⟨e, h1, h2, h3, h4, h5⟩ := ih (i + 1) (by omega) (by omega)
      refine ⟨e, by omega, h2, ?_, ?_, runstep s st i hs hl hst hk _ h5⟩
      · rw [h3, List.dropWhile_cons, if_pos hk']
      · rw [List.takeWhile_cons, if_pos hk', List.length_cons]; omega
theorem sign_ev (s : ByteArray) (st : Nat) (hs : s.size ≤ 140737488351232) : ∀ (d i : Nat), i + d = s.size → st ≤ i → ∃ e : Nat, i ≤ e ∧ e ≤ s.size ∧ at_ s e = (at_ s i).dropWhile mrkB ∧ e - i = ((at_ s i).takeWhile mrkB).length ∧
    Ev (fun k => relation_reader_run.l0 k true (i : Int) s (st : Int)) (s.extract (st : Int).toNat (e : Int).toNat, s, (st : Int)) := by
  intro d
  induction d with
  | zero =>
    intro i hi hst
    obtain rfl : i = s.size := by omega
    refine ⟨s.size, Nat.le_refl _, by omega, by rw [at_end]; rfl, by rw [at_end]; simp, ?_⟩
    refine Ev.step (f := fun _ => some (s.extract (st : Int).toNat (s.size : Int).toNat, s, (st : Int))) (fun k => ?_) (Ev.now _)
    simp only [relation_reader_run.l0]
    rw [if_neg (by omega), if_pos (by omega), if_pos (by omega), if_pos (by omega)]
  | succ d ih =>
    intro i hi hst
    have hl : i < s.size := by omega
    rw [at_lt hl]
    by_cases hk : mrkB (s[i]'hl) = true
    · obtain ⟨e, h1, h2, h3, h4, h5⟩ := ih (i + 1) (by omega) (by omega)
      refine ⟨e, by omega, h2, ?_, ?_, signstep s st i hs hl hst hk _ h5⟩
      · rw [h3, List.dropWhile_cons, if_pos hk]
      · rw [List.takeWhile_cons, if_pos hk, List.length_cons]; omega
    · refine ⟨i, Nat.le_refl _, by omega, ?_, ?_, signstop s st i hs hl hst hk⟩
      · rw [at_lt hl, List.dropWhile_cons, if_neg hk]
      · rw [List.takeWhile_cons, if_neg hk]; simp
def closeM (x : S46) (r : B) : (Int ⊕ S46) × B := match r with
  | [] => (.inl 220, [])
  | c :: r => if c = 41 then (.inr x, dg r) else (.inl 220, c :: r)
def versM (nm : B) (op : Int) (r4 : B) : (Int ⊕ S46) × B :=
  if r4.takeWhile wrdB = [] then (.inl 220, r4) else if okS (ofL (r4.takeWhile wrdB)) = false then (.inl 200, r4) else
  closeM ⟨ofL nm, op, ofL (r4.takeWhile wrdB)⟩ (dg (r4.dropWhile wrdB))
def operM (nm : B) (r3 : B) : (Int ⊕ S46) × B :=
  if opOf (ofL (r3.takeWhile mrkB)) = 0 then (.inl 220, r3) else versM nm (opOf (ofL (r3.takeWhile mrkB))) (dg (r3.dropWhile mrkB))
def openM (nm : B) (r1 : B) : (Int ⊕ S46) × B := match r1 with
  | [] => (.inr ⟨ofL nm, 0, ⟨#[]⟩⟩, [])
  | c :: r => if c = 40 then operM nm (dg r) else (.inr ⟨ofL nm, 0, ⟨#[]⟩⟩, c :: r)
def relM (l : B) : (Int ⊕ S46) × B :=
  if l.takeWhile wrdB = [] then (.inl 220, l) else if nameM (l.takeWhile wrdB) = false then (.inl 230, l) else openM (l.takeWhile wrdB) (dg (l.dropWhile wrdB))
def relOut (s : ByteArray) (e : Int) : Int ⊕ S46 → ByteArray × Int × ByteArray × Int × ByteArray × Int
  | .inl er => noRel er s e
  | .inr x => (x.f0, x.f1, x.f2, 0, s, e)
theorem pass_ev (s : ByteArray) (hs : s.size ≤ 140737488351232) (i n : Nat) (h : i + n ≤ s.size) : ∃ e : Nat, i + n ≤ e ∧ e ≤ s.size ∧ at_ s e = dg (at_ s (i + n)) ∧ Ev (fun k => relation_reader_pass.f k s (i : Int) (n : Int)) (s, (e : Int)) := by
  obtain ⟨e, h1, h2, h3, h4⟩ := gaps_ev s hs (s.size - (i + n)) (i + n) (by omega)
  refine ⟨e, h1, h2, h3, ?_⟩
  unfold relation_reader_pass.f
  have ew : wrap64 ((i : Int) + (n : Int)) = ((i + n : Nat) : Int) := by rw [wrap_id (by omega) (by omega)]; omega
  simp only [ew]
  exact Ev.bind h4 (Ev.now _)
theorem takes_yes (s : ByteArray) (hs : s.size ≤ 140737488351232) (i : Nat) (c : Int) (h : i < s.size) (hc : bt s i = c) : ∃ e : Nat, i < e ∧ e ≤ s.size ∧ at_ s e = dg (at_ s (i + 1)) ∧ Ev (fun k => relation_reader_takes.f k s (i : Int) c) (true, s, (e : Int)) := by
  obtain ⟨e, h1, h2, h3, h4⟩ := pass_ev s hs i 1 (by omega)
  refine ⟨e, by omega, h2, h3, ?_⟩
  unfold relation_reader_takes.f
  simp only [if_neg (show ¬ (i : Int) = s.size by omega), if_pos (show (0 : Int) ≤ i by omega), if_pos (show (i : Int) < s.size by omega), if_pos hc]
  exact Ev.bind h4 (Ev.now _)
theorem takes_no (s : ByteArray) (i : Nat) (c : Int) (hi : i ≤ s.size) (h : i = s.size ∨ ¬ bt s i = c) : Ev (fun k => relation_reader_takes.f k s (i : Int) c) (false, s, (i : Int)) := by
  unfold relation_reader_takes.f
  by_cases he : i = s.size
  · simp only [if_pos (show (i : Int) = s.size by omega)]
    exact Ev.now _
  · have hb : ¬ bt s i = c := h.resolve_left he
    simp only [if_neg (show ¬ (i : Int) = s.size by omega), if_pos (show (0 : Int) ≤ i by omega), if_pos (show (i : Int) < s.size by omega), if_neg hb]
    exact Ev.now _
theorem close_ev (s : ByteArray) (hs : s.size ≤ 140737488351232) (i : Nat) (hi : i ≤ s.size) (x : S46) : ∃ e : Nat, i ≤ e ∧ e ≤ s.size ∧ at_ s e = (closeM x (at_ s i)).2 ∧
    Ev (fun k => (relation_reader_takes.f k s (i : Int) 41).bind fun x8 => if x8.1 = false then some (noRel 220 x8.2.1 x8.2.2) else some (x.f0, x.f1, x.f2, (0 : Int), x8.2.1, x8.2.2)) (relOut s (e : Int) (closeM x (at_ s i)).1) := by
  cases hl : at_ s i with
  | nil =>
    refine ⟨i, Nat.le_refl _, hi, hl, ?_⟩
    refine Ev.bind (takes_no s i 41 hi (.inl (at_nil hi hl))) ?_
    simp only [if_true, closeM, relOut]
    exact Ev.now _
  | cons c r =>
    obtain ⟨h1, h2, h3⟩ := at_cons hi hl
    by_cases hc : c = 41
    · subst hc
      obtain ⟨e, e1, e2, e3, e4⟩ := takes_yes s hs i 41 h1 h2
      refine ⟨e, by omega, e2, by rw [e3, h3]; simp [closeM], ?_⟩
      refine Ev.bind e4 ?_
      simp only [Bool.true_eq_false, if_false, closeM, if_true, relOut]
      exact Ev.now _
    · refine ⟨i, Nat.le_refl _, hi, by rw [hl]; simp [closeM, hc], ?_⟩
      refine Ev.bind (takes_no s i 41 hi (.inr ?_)) ?_
      · rw [h2]
        exact fun q => hc (toNat_inj.1 (show (c.toNat : Int) = ((41 : UInt8).toNat : Int) from q))
      · simp only [if_true, closeM, if_neg hc, relOut]
        exact Ev.now _
theorem vers_ev (s : ByteArray) (hs : s.size ≤ 140737488351232) (i : Nat) (hi : i ≤ s.size) (nm : B) (op : Int) : ∃ e : Nat, i ≤ e ∧ e ≤ s.size ∧ at_ s e = (versM nm op (at_ s i)).2 ∧
    Ev (fun k => (relation_reader_run.f k s (i : Int) false).bind fun x6 => if x6.1.toList = [] then some (noRel 220 x6.2.1 x6.2.2) else
      (version_Legal.f k x6.1).bind fun lg => if lg = false then some (noRel 200 x6.2.1 x6.2.2) else
      (relation_reader_pass.f k x6.2.1 x6.2.2 x6.1.size).bind fun x7 => (relation_reader_takes.f k x7.1 x7.2 41).bind fun x8 => if x8.1 = false then some (noRel 220 x8.2.1 x8.2.2) else some (ofL nm, op, x6.1, (0 : Int), x8.2.1, x8.2.2)) (relOut s (e : Int) (versM nm op (at_ s i)).1) := by
  obtain ⟨x, hx1, hx2, hx3, hx4, hx5⟩ := word_ev s i hs (s.size - i) i (by omega) (Nat.le_refl _)
  have hv : s.extract (i : Int).toNat (x : Int).toNat = ofL ((at_ s i).takeWhile wrdB) := by rw [ext_at, hx4, take_tw]
  rw [hv] at hx5
  have hr : Ev (fun k => relation_reader_run.f k s (i : Int) false) (ofL ((at_ s i).takeWhile wrdB), s, (i : Int)) := hx5
  by_cases e1 : (at_ s i).takeWhile wrdB = []
  · refine ⟨i, Nat.le_refl _, hi, by simp only [versM, if_pos e1], ?_⟩
    refine Ev.bind hr ?_
    simp only [ofL_list, if_pos e1, versM, relOut]
    exact Ev.now _
  have hL := plegal_ev (ofL ((at_ s i).takeWhile wrdB)) (by rw [ofL_size]; omega)
  by_cases e2 : okS (ofL ((at_ s i).takeWhile wrdB)) = false
  · refine ⟨i, Nat.le_refl _, hi, by simp only [versM, if_neg e1, if_pos e2], ?_⟩
    refine Ev.bind hr ?_
    simp only [ofL_list, if_neg e1]
    refine Ev.bind hL ?_
    simp only [if_pos e2, versM, if_neg e1, relOut]
    exact Ev.now _
  obtain ⟨p, hp1, hp2, hp3, hp4⟩ := pass_ev s hs i (x - i) (by omega)
  rw [show i + (x - i) = x by omega, hx3] at hp3
  obtain ⟨e, c1, c2, c3, c4⟩ := close_ev s hs p hp2 ⟨ofL nm, op, ofL ((at_ s i).takeWhile wrdB)⟩
  rw [hp3] at c3 c4
  refine ⟨e, by omega, c2, by rw [c3]; simp only [versM, if_neg e1, if_neg e2], ?_⟩
  refine Ev.bind hr ?_
  simp only [ofL_list, if_neg e1]
  refine Ev.bind hL ?_
  simp only [if_neg e2, versM, if_neg e1, ofL_size, ← hx4]
  exact Ev.bind hp4 c4
theorem oper_ev (s : ByteArray) (hs : s.size ≤ 140737488351232) (i : Nat) (hi : i ≤ s.size) (nm : B) : ∃ e : Nat, i ≤ e ∧ e ≤ s.size ∧ at_ s e = (operM nm (at_ s i)).2 ∧
    Ev (fun k => (relation_reader_run.f k s (i : Int) true).bind fun x4 => if opOf x4.1 = 0 then some (noRel 220 x4.2.1 x4.2.2) else
      (relation_reader_pass.f k x4.2.1 x4.2.2 x4.1.size).bind fun x5 => (relation_reader_run.f k x5.1 x5.2 false).bind fun x6 => if x6.1.toList = [] then some (noRel 220 x6.2.1 x6.2.2) else
      (version_Legal.f k x6.1).bind fun lg => if lg = false then some (noRel 200 x6.2.1 x6.2.2) else
      (relation_reader_pass.f k x6.2.1 x6.2.2 x6.1.size).bind fun x7 => (relation_reader_takes.f k x7.1 x7.2 41).bind fun x8 => if x8.1 = false then some (noRel 220 x8.2.1 x8.2.2) else some (ofL nm, opOf x4.1, x6.1, (0 : Int), x8.2.1, x8.2.2)) (relOut s (e : Int) (operM nm (at_ s i)).1) := by
  obtain ⟨x, hx1, hx2, hx3, hx4, hx5⟩ := sign_ev s i hs (s.size - i) i (by omega) (Nat.le_refl _)
  have hv : s.extract (i : Int).toNat (x : Int).toNat = ofL ((at_ s i).takeWhile mrkB) := by rw [ext_at, hx4, take_tw]
  rw [hv] at hx5
  have hr : Ev (fun k => relation_reader_run.f k s (i : Int) true) (ofL ((at_ s i).takeWhile mrkB), s, (i : Int)) := hx5
  by_cases e1 : opOf (ofL ((at_ s i).takeWhile mrkB)) = 0
  · refine ⟨i, Nat.le_refl _, hi, by simp only [operM, if_pos e1], ?_⟩
    refine Ev.bind hr ?_
    simp only [if_pos e1, operM, relOut]
    exact Ev.now _
  obtain ⟨p, hp1, hp2, hp3, hp4⟩ := pass_ev s hs i (x - i) (by omega)
  rw [show i + (x - i) = x by omega, hx3] at hp3
  obtain ⟨e, c1, c2, c3, c4⟩ := vers_ev s hs p hp2 nm (opOf (ofL ((at_ s i).takeWhile mrkB)))
  rw [hp3] at c3 c4
  refine ⟨e, by omega, c2, by rw [c3]; simp only [operM, if_neg e1], ?_⟩
  refine Ev.bind hr ?_
  simp only [if_neg e1, operM, ofL_size, ← hx4]
  exact Ev.bind hp4 c4
theorem rel_ev (s : ByteArray) (hs : s.size ≤ 140737488351232) (i : Nat) (hi : i ≤ s.size) : ∃ e : Nat, i ≤ e ∧ e ≤ s.size ∧ at_ s e = (relM (at_ s i)).2 ∧
    Ev (fun k => relation_reader_relation.f k s (i : Int)) (relOut s (e : Int) (relM (at_ s i)).1) := by
  obtain ⟨x, hx1, hx2, hx3, hx4, hx5⟩ := word_ev s i hs (s.size - i) i (by omega) (Nat.le_refl _)
  have hv : s.extract (i : Int).toNat (x : Int).toNat = ofL ((at_ s i).takeWhile wrdB) := by rw [ext_at, hx4, take_tw]
  rw [hv] at hx5
  have hr : Ev (fun k => relation_reader_run.f k s (i : Int) false) (ofL ((at_ s i).takeWhile wrdB), s, (i : Int)) := hx5
  unfold relation_reader_relation.f
  by_cases e1 : (at_ s i).takeWhile wrdB = []
  · refine ⟨i, Nat.le_refl _, hi, by simp only [relM, if_pos e1], ?_⟩
    refine Ev.bind hr ?_
    simp only [ofL_list, if_pos e1, relM, relOut]
    exact Ev.now _
  have hN := name_ev (ofL ((at_ s i).takeWhile wrdB)) (by rw [ofL_size]; omega)
  rw [toL_ofL] at hN
  by_cases e2 : nameM ((at_ s i).takeWhile wrdB) = false
  · refine ⟨i, Nat.le_refl _, hi, by simp only [relM, if_neg e1, if_pos e2], ?_⟩
    refine Ev.bind hr ?_
    simp only [ofL_list, if_neg e1]
    refine Ev.bind hN ?_
    simp only [if_pos e2, relM, if_neg e1, relOut]
    exact Ev.now _
  obtain ⟨p, hp1, hp2, hp3, hp4⟩ := pass_ev s hs i (x - i) (by omega)
  rw [show i + (x - i) = x by omega, hx3] at hp3
  have hP : ∀ {v}, Ev (fun k => (relation_reader_takes.f k s (p : Int) 40).bind fun x3 => if x3.1 = false then some (ofL ((at_ s i).takeWhile wrdB), 0, ⟨#[]⟩, 0, x3.2.1, x3.2.2) else
      (relation_reader_run.f k x3.2.1 x3.2.2 true).bind fun x4 => if opOf x4.1 = 0 then some (noRel 220 x4.2.1 x4.2.2) else
      (relation_reader_pass.f k x4.2.1 x4.2.2 x4.1.size).bind fun x5 => (relation_reader_run.f k x5.1 x5.2 false).bind fun x6 => if x6.1.toList = [] then some (noRel 220 x6.2.1 x6.2.2) else
      (version_Legal.f k x6.1).bind fun lg => if lg = false then some (noRel 200 x6.2.1 x6.2.2) else
      (relation_reader_pass.f k x6.2.1 x6.2.2 x6.1.size).bind fun x7 => (relation_reader_takes.f k x7.1 x7.2 41).bind fun x8 => if x8.1 = false then some (noRel 220 x8.2.1 x8.2.2) else some (ofL ((at_ s i).takeWhile wrdB), opOf x4.1, x6.1, 0, x8.2.1, x8.2.2)) v →
      Ev (fun k => (relation_reader_run.f k s (i : Int) false).bind fun x1 => if x1.1.toList = [] then some (noRel 220 x1.2.1 x1.2.2) else
      (relation_Name.f k x1.1).bind fun nm => if nm = false then some (noRel 230 x1.2.1 x1.2.2) else
      (relation_reader_pass.f k x1.2.1 x1.2.2 x1.1.size).bind fun x2 => (relation_reader_takes.f k x2.1 x2.2 40).bind fun x3 => if x3.1 = false then some (x1.1, 0, ⟨#[]⟩, 0, x3.2.1, x3.2.2) else
      (relation_reader_run.f k x3.2.1 x3.2.2 true).bind fun x4 => if opOf x4.1 = 0 then some (noRel 220 x4.2.1 x4.2.2) else
      (relation_reader_pass.f k x4.2.1 x4.2.2 x4.1.size).bind fun x5 => (relation_reader_run.f k x5.1 x5.2 false).bind fun x6 => if x6.1.toList = [] then some (noRel 220 x6.2.1 x6.2.2) else
      (version_Legal.f k x6.1).bind fun lg => if lg = false then some (noRel 200 x6.2.1 x6.2.2) else
      (relation_reader_pass.f k x6.2.1 x6.2.2 x6.1.size).bind fun x7 => (relation_reader_takes.f k x7.1 x7.2 41).bind fun x8 => if x8.1 = false then some (noRel 220 x8.2.1 x8.2.2) else some (x1.1, opOf x4.1, x6.1, 0, x8.2.1, x8.2.2)) v := by
    intro v h
    refine Ev.bind hr ?_
    simp only [ofL_list, if_neg e1]
    refine Ev.bind hN ?_
    simp only [if_neg e2, ofL_size, ← hx4]
    exact Ev.bind hp4 h
  have eM : relM (at_ s i) = openM ((at_ s i).takeWhile wrdB) (at_ s p) := by
    rw [hp3]
    simp only [relM, if_neg e1, if_neg e2]
  rw [eM]
  clear hr hN hp4
  cases hl : at_ s p with
  | nil =>
    refine ⟨p, by omega, hp2, hl, hP ?_⟩
    refine Ev.bind (takes_no s p 40 hp2 (.inl (at_nil hp2 hl))) ?_
    simp only [if_true, openM, relOut]
    exact Ev.now _
  | cons c r =>
    obtain ⟨h1, h2, h3⟩ := at_cons hp2 hl
    by_cases hc : c = 40
    · subst hc
      obtain ⟨q, q1, q2, q3, q4⟩ := takes_yes s hs p 40 h1 h2
      rw [h3] at q3
      obtain ⟨e, c1, c2, c3, c4⟩ := oper_ev s hs q q2 ((at_ s i).takeWhile wrdB)
      rw [q3] at c3 c4
      refine ⟨e, by omega, c2, by rw [c3]; simp only [openM, if_true], hP ?_⟩
      refine Ev.bind q4 ?_
      simp only [Bool.true_eq_false, if_false, openM, if_true]
      exact c4
    · refine ⟨p, by omega, hp2, by rw [hl]; simp only [openM, if_neg hc], hP ?_⟩
      refine Ev.bind (takes_no s p 40 hp2 (.inr ?_)) ?_
      · rw [h2]
        exact fun q => hc (toNat_inj.1 (show (c.toNat : Int) = ((40 : UInt8).toNat : Int) from q))
      · simp only [if_true, openM, if_neg hc, relOut]
        exact Ev.now _
end Go.Proofs.YtmocooihkobdjaaDoor.Model
end
section
set_option linter.unusedVariables false
set_option linter.unusedSimpArgs false
namespace Go.Proofs.YtmocooihkobdjaaDoor.Model
open Go.RowKit Go.Proofs.YtmocooihkobdjaaDoor.I Go.Proofs.YtmocooihkobdjaaDoorW.PrintWords Go.Proofs.YtmocooihkobdjaaDoorW.PrintLast Go.Proofs.YtmocooihkobdjaaDoor.Ver
def formM (x : S46) : Bool := nameM x.f0.data.toList && (if x.f1 = 0 then x.f2.toList == ([] : List UInt8) else if (wordOf x.f1).toList = ([] : List UInt8) then false else okS x.f2)
def textM (x : S46) : B := if x.f1 = 0 then x.f0.data.toList else x.f0.data.toList ++ ([32, 40] ++ ((wordOf x.f1).data.toList ++ ([32] ++ (x.f2.data.toList ++ [41]))))
def rowT (m : List S46) : B := Lib.join (m.map textM) [32, 124, 32]
def textsM (L : List (List S46)) : B := Lib.join (L.map rowT) [44, 32]
def okL (L : List (List S46)) : Bool := L.all (fun m => !m.isEmpty && m.all formM)
theorem joinTail_cons (sep : B) (x : B) (r : List B) : Lib.joinTail sep (x :: r) = sep ++ (x ++ Lib.joinTail sep r) := by
  simp [Lib.joinTail]
theorem rowT_cons (x : S46) (m : List S46) : rowT (x :: m) = textM x ++ Lib.joinTail [32, 124, 32] (m.map textM) := by
  unfold rowT
  rw [List.map_cons, Lib.join_cons]
theorem rd_at {L : List (List S46)} {i : Nat} (h : i < L.length) : rd_L3 L (i : Int) = L[i] := by
  unfold rd_L3
  rw [Int.toNat_natCast, List.getD_eq_getElem?_getD, List.getElem?_eq_getElem h, Option.getD_some]
theorem rt_at {l : List S46} {i : Nat} (h : i < l.length) : rd_T46 l (i : Int) = l[i] := by
  unfold rd_T46
  rw [Int.toNat_natCast, List.getD_eq_getElem?_getD, List.getElem?_eq_getElem h, Option.getD_some]
theorem drop_at {α : Type} {l : List α} {i : Nat} (h : i < l.length) : l.drop i = l[i] :: l.drop (i + 1) := List.drop_eq_getElem_cons h
theorem row_len {L : List (List S46)} {m : List S46} (h : m ∈ L) : m.length ≤ L.flatten.length := by
  induction L with
  | nil => cases h
  | cons a L ih =>
    simp only [List.flatten_cons, List.length_append]
    rcases List.mem_cons.1 h with q | q
    · rw [q]; omega
    · have := ih q; omega
def full (L : List (List S46)) : Bool := L.all (fun m => !m.isEmpty)
def fair (L : List (List S46)) : Bool := L.all (fun m => m.all formM)
theorem okL_parts (L : List (List S46)) : okL L = (full L && fair L) := by
  unfold okL full fair
  induction L with
  | nil => rfl
  | cons m L ih =>
    rw [List.all_cons, List.all_cons, List.all_cons, ih]
    cases m.isEmpty <;> cases m.all formM <;> simp
theorem fair_flat (L : List (List S46)) : L.flatten.all formM = fair L := by
  unfold fair
  induction L with
  | nil => rfl
  | cons m L ih => rw [List.flatten_cons, List.all_append, List.all_cons, ih]
end Go.Proofs.YtmocooihkobdjaaDoor.Model
end
section
set_option linter.unusedVariables false
set_option linter.unusedSimpArgs false
namespace Go.Proofs.YtmocooihkobdjaaDoor.Model
open Go.RowKit Go.Proofs.YtmocooihkobdjaaDoor.I Go.Proofs.YtmocooihkobdjaaDoorW.PrintWords Go.Proofs.YtmocooihkobdjaaDoorW.PrintLast Go.Proofs.YtmocooihkobdjaaDoor.Ver
theorem dg_le (l : B) : (dg l).length ≤ l.length := (List.dropWhile_sublist _).length_le
theorem dg_dg (l : B) : dg (dg l) = dg l := by
  unfold dg
  induction l with
  | nil => rfl
  | cons c l ih =>
    rw [List.dropWhile_cons]
    split
    · exact ih
    · rw [List.dropWhile_cons]; rw [if_neg ‹_›]
theorem tw_dw (p : UInt8 → Bool) (l : B) : (l.takeWhile p).length + (l.dropWhile p).length = l.length := by
  have := congrArg List.length (List.takeWhile_append_dropWhile (p := p) (l := l))
  rw [List.length_append] at this
  exact this
def relSize (x : S46) : Nat := x.f0.size + x.f2.size
theorem word_op (m : ByteArray) (h : ¬ opOf m = 0) : wordOf (opOf m) = m := by
  have hm : m = ofL m.toList := by
    obtain ⟨⟨x⟩⟩ := m
    rw [ByteArray.toList_eq]; rfl
  obtain ⟨i1, i2, i3, i4, i5⟩ := opOf_iff m
  have hb := opOf_bd m
  have hc : opOf m = 1 ∨ opOf m = 2 ∨ opOf m = 3 ∨ opOf m = 4 ∨ opOf m = 5 := by omega
  rcases hc with e | e | e | e | e
  · rw [e, hm, i1.1 e]; rfl
  · rw [e, hm, i2.1 e]; rfl
  · rw [e, hm, i3.1 e]; rfl
  · rw [e, hm, i4.1 e]; rfl
  · rw [e, hm, i5.1 e]; rfl
theorem closeM_inr {x y : S46} {l r : B} (h : closeM x l = (.inr y, r)) : y = x ∧ r.length < l.length ∧ dg r = r := by
  unfold closeM at h
  split at h
  · simp at h
  · split at h
    · simp only [Prod.mk.injEq, Sum.inr.injEq] at h
      obtain ⟨rfl, rfl⟩ := h
      rename_i c r' _
      have := dg_le r'
      exact ⟨rfl, by simp only [List.length_cons]; omega, dg_dg _⟩
    · simp at h
theorem closeM_inl {x : S46} {e : Int} {l r : B} (h : closeM x l = (.inl e, r)) : e = 220 ∧ r.length ≤ l.length := by
  unfold closeM at h
  split at h
  · simp only [Prod.mk.injEq, Sum.inl.injEq] at h
    obtain ⟨rfl, rfl⟩ := h
    exact ⟨rfl, Nat.le_refl _⟩
  · split at h
    · simp at h
    · simp only [Prod.mk.injEq, Sum.inl.injEq] at h
      obtain ⟨rfl, rfl⟩ := h
      exact ⟨rfl, Nat.le_refl _⟩
theorem versM_inr {nm : B} {op : Int} {y : S46} {l r : B} (h : versM nm op l = (.inr y, r)) : y.f0 = ofL nm ∧ y.f1 = op ∧ okS y.f2 = true ∧ y.f2.size + r.length < l.length ∧ dg r = r := by
  unfold versM at h
  split at h
  · simp at h
  · split at h
    · simp at h
    · rename_i h1 h2
      obtain ⟨rfl, h3, h4⟩ := closeM_inr h
      refine ⟨rfl, rfl, by simpa using h2, ?_, h4⟩
      have a1 := tw_dw wrdB l
      have a2 := dg_le (l.dropWhile wrdB)
      simp only [ofL_size]
      omega
theorem versM_inl {nm : B} {op : Int} {e : Int} {l r : B} (h : versM nm op l = (.inl e, r)) : (e = 220 ∨ e = 200) ∧ r.length ≤ l.length := by
  unfold versM at h
  split at h
  · simp only [Prod.mk.injEq, Sum.inl.injEq] at h
    obtain ⟨rfl, rfl⟩ := h
    exact ⟨.inl rfl, Nat.le_refl _⟩
  · split at h
    · simp only [Prod.mk.injEq, Sum.inl.injEq] at h
      obtain ⟨rfl, rfl⟩ := h
      exact ⟨.inr rfl, Nat.le_refl _⟩
    · obtain ⟨rfl, h3⟩ := closeM_inl h
      have a1 := tw_dw wrdB l
      have a2 := dg_le (l.dropWhile wrdB)
      exact ⟨.inl rfl, by omega⟩
theorem operM_inr {nm : B} {y : S46} {l r : B} (h : operM nm l = (.inr y, r)) : y.f0 = ofL nm ∧ ¬ y.f1 = 0 ∧ ¬ (wordOf y.f1).toList = [] ∧ okS y.f2 = true ∧ y.f2.size + r.length < l.length ∧ dg r = r := by
  unfold operM at h
  split at h
  · simp at h
  · rename_i h1
    obtain ⟨a, b, c, d, e⟩ := versM_inr h
    have a1 := tw_dw mrkB l
    have a2 := dg_le (l.dropWhile mrkB)
    refine ⟨a, by rw [b]; exact h1, ?_, c, by omega, e⟩
    rw [b, word_op _ h1, ofL_list]
    intro q
    rw [q] at h1
    exact h1 (by unfold opOf; simp [ofL_list])
theorem operM_inl {nm : B} {e : Int} {l r : B} (h : operM nm l = (.inl e, r)) : (e = 220 ∨ e = 200) ∧ r.length ≤ l.length := by
  unfold operM at h
  split at h
  · simp only [Prod.mk.injEq, Sum.inl.injEq] at h
    obtain ⟨rfl, rfl⟩ := h
    exact ⟨.inl rfl, Nat.le_refl _⟩
  · obtain ⟨h1, h3⟩ := versM_inl h
    have a1 := tw_dw mrkB l
    have a2 := dg_le (l.dropWhile mrkB)
    exact ⟨h1, by omega⟩
theorem openM_inr {nm : B} {y : S46} {l r : B} (h : openM nm l = (.inr y, r)) (hd : dg l = l) : y.f0 = ofL nm ∧ ((y.f1 = 0 ∧ y.f2 = ⟨#[]⟩) ∨ (¬ y.f1 = 0 ∧ ¬ (wordOf y.f1).toList = [] ∧ okS y.f2 = true)) ∧ y.f2.size + r.length ≤ l.length ∧ dg r = r := by
  unfold openM at h
  split at h
  · simp only [Prod.mk.injEq, Sum.inr.injEq] at h
    obtain ⟨rfl, rfl⟩ := h
    exact ⟨rfl, .inl ⟨rfl, rfl⟩, Nat.le_refl _, rfl⟩
  · split at h
    · obtain ⟨a, b, c, d, e, f⟩ := operM_inr h
      rename_i c' r' _
      have := dg_le r'
      exact ⟨a, .inr ⟨b, c, d⟩, by simp only [List.length_cons]; omega, f⟩
    · simp only [Prod.mk.injEq, Sum.inr.injEq] at h
      obtain ⟨rfl, rfl⟩ := h
      exact ⟨rfl, .inl ⟨rfl, rfl⟩, by show 0 + _ ≤ _; omega, hd⟩
theorem openM_inl {nm : B} {e : Int} {l r : B} (h : openM nm l = (.inl e, r)) : (e = 220 ∨ e = 200) ∧ r.length ≤ l.length := by
  unfold openM at h
  split at h
  · simp at h
  · split at h
    · obtain ⟨a, b⟩ := operM_inl h
      rename_i c' r' _
      have := dg_le r'
      exact ⟨a, by simp only [List.length_cons]; omega⟩
    · simp at h
theorem relM_inr {y : S46} {l r : B} (h : relM l = (.inr y, r)) : formM y = true ∧ 1 ≤ y.f0.size ∧ relSize y + r.length ≤ l.length ∧ dg r = r := by
  unfold relM at h
  split at h
  · simp at h
  · split at h
    · simp at h
    · rename_i h1 h2
      obtain ⟨a, b, c, d⟩ := openM_inr h (dg_dg _)
      have a1 := tw_dw wrdB l
      have a2 := dg_le (l.dropWhile wrdB)
      have hn : nameM y.f0.data.toList = true := by rw [a, toL_ofL]; simpa using h2
      have hz : 1 ≤ (l.takeWhile wrdB).length := by
        rcases Nat.eq_zero_or_pos (l.takeWhile wrdB).length with q | q
        · exact absurd (List.eq_nil_of_length_eq_zero q) h1
        · exact q
      refine ⟨?_, by rw [a, ofL_size]; exact hz, ?_, d⟩
      · unfold formM
        rw [hn]
        rcases b with ⟨b1, b2⟩ | ⟨b1, b2, b3⟩
        · rw [if_pos b1, b2]
          show (true && ((ofL []).toList == [])) = true
          rw [ofL_list]; rfl
        · rw [if_neg b1, if_neg b2, b3]; rfl
      · unfold relSize
        rw [a, ofL_size]
        omega
theorem relM_inl {e : Int} {l r : B} (h : relM l = (.inl e, r)) : (e = 220 ∨ e = 230 ∨ e = 200) ∧ r.length ≤ l.length := by
  unfold relM at h
  split at h
  · simp only [Prod.mk.injEq, Sum.inl.injEq] at h
    obtain ⟨rfl, rfl⟩ := h
    exact ⟨.inl rfl, Nat.le_refl _⟩
  · split at h
    · simp only [Prod.mk.injEq, Sum.inl.injEq] at h
      obtain ⟨rfl, rfl⟩ := h
      exact ⟨.inr (.inl rfl), Nat.le_refl _⟩
    · obtain ⟨h1, h3⟩ := openM_inl h
      have a1 := tw_dw wrdB l
      have a2 := dg_le (l.dropWhile wrdB)
      exact ⟨by rcases h1 with h1 | h1 <;> simp [h1], by omega⟩
def listsM (bars : Bool) : Nat → List (List S46) → List S46 → B → List (List S46) × Int × B
  | 0, _, _, l => ([], 0, l)
  | d + 1, x8, x10, l => match relM l with
    | (.inl e, r) => ([], e, r)
    | (.inr x, []) => (x8 ++ [x10 ++ [x]], 0, [])
    | (.inr x, c :: r) =>
      if c = 124 ∧ bars = true then listsM bars d x8 (x10 ++ [x]) (dg r)
      else if c = 44 then listsM bars d (x8 ++ [x10 ++ [x]]) [] (dg r)
      else ([], 220, c :: r)
def readM (bars : Bool) (l : B) : List (List S46) × Int × B :=
  if dg l = [] then ([], 0, []) else listsM bars ((dg l).length + 1) [] [] (dg l)
def placeM (s : ByteArray) (R : List (List S46) × Int × B) : List (List S46) × Int × Int := (R.1, R.2.1, if R.2.1 = 0 then 0 else ((s.size - R.2.2.length : Nat) : Int))
theorem place_at {s : ByteArray} {e : Nat} {r : B} (he : e ≤ s.size) (h : at_ s e = r) : s.size - r.length = e := by
  rw [← h, at_len]
  omega
theorem lists_ev (s : ByteArray) (hs : s.size ≤ 140737488351232) (hb : s.size ≤ 3000000000000) (bars : Bool) : ∀ (d i : Nat), s.size - i < d → i ≤ s.size → ∀ (x8 : List (List S46)) (x10 : List S46), x8.length + x10.length ≤ i →
    Ev (fun k => relation_read.l1 k s bars x8 x10 true s (i : Int)) (placeM s (listsM bars d x8 x10 (at_ s i))) := by
  intro d
  induction d with
  | zero => intro i hd; exact absurd hd (by omega)
  | succ d ih =>
    intro i hd hi x8 x10 hlen
    obtain ⟨e, he1, he2, he3, hp⟩ := rel_ev s hs i hi
    have hP : ∀ {v}, Ev (fun k => ((relation_reader_relation.f k s (i : Int)).bind fun bt126 => (if bt126.2.2.2.1 = 0 then (if x10.length < 3518437208883 then ((some (x10 ++ [(⟨bt126.1, bt126.2.1, bt126.2.2.1⟩ : S46)] : List (S46))).bind fun y133 => (if bars = true then ((relation_reader_takes.f k bt126.2.2.2.2.1 bt126.2.2.2.2.2 124).bind fun bt136 => (relation_read.l1 k s bars x8 y133 bt136.1 bt136.2.1 bt136.2.2)) else (relation_read.l1 k s bars x8 y133 false bt126.2.2.2.2.1 bt126.2.2.2.2.2))) else (none)) else (some (([] : List (List (S46))), bt126.2.2.2.1, bt126.2.2.2.2.2))))) v → Ev (fun k => relation_read.l1 k s bars x8 x10 true s (i : Int)) v := by
      intro v h
      refine Ev.step (f := _) (fun k => ?_) h
      simp only [relation_read.l1, if_true]
    rw [listsM]
    cases hR : relM (at_ s i) with
    | mk q r =>
    rw [hR] at hp he3
    cases q with
    | inl er =>
      have hne : ¬ er = 0 := by
        rcases (relM_inl hR).1 with h | h | h <;> omega
      refine hP (Ev.bind hp ?_)
      simp only [relOut, noRel, placeM, hne, if_false]
      rw [place_at he2 he3]
      exact Ev.now _
    | inr x =>
      obtain ⟨f1, f2, f3, f4⟩ := relM_inr hR
      have hie : i < e := by
        have := at_len s i
        have h2 := at_len s e
        simp only at he3
        rw [he3] at h2
        unfold relSize at f3
        omega
      have hP2 : ∀ {v}, Ev (fun k => if bars = true then ((relation_reader_takes.f k s (e : Int) 124).bind fun bt136 => (relation_read.l1 k s bars x8 (x10 ++ [x]) bt136.1 bt136.2.1 bt136.2.2)) else (relation_read.l1 k s bars x8 (x10 ++ [x]) false s (e : Int))) v → Ev (fun k => relation_read.l1 k s bars x8 x10 true s (i : Int)) v := by
        intro v h
        refine hP (Ev.bind hp ?_)
        simp only [relOut, if_true, if_pos (show x10.length < 3518437208883 by omega), Option.bind_some]
        exact h
      have hyl : (x10 ++ [x]).length = x10.length + 1 := by simp
      have hlen8 : (x8 ++ [x10 ++ [x]]).length = x8.length + 1 := by simp
      have hP3 : ∀ {v}, Ev (fun k => relation_read.l1 k s bars x8 (x10 ++ [x]) false s (e : Int)) v → (bars = true → e = s.size ∨ ¬ bt s (e : Int) = 124) → Ev (fun k => relation_read.l1 k s bars x8 x10 true s (i : Int)) v := by
        intro v h hno
        refine hP2 ?_
        by_cases hbars : bars = true
        · simp only [if_pos hbars]
          exact Ev.bind (takes_no s e 124 he2 (hno hbars)) h
        · simp only [if_neg hbars]
          exact h
      have hP4 : ∀ {v}, Ev (fun k => (relation_reader_takes.f k s (e : Int) 44).bind fun bt123 => (relation_read.l0 k s bars (x8 ++ [x10 ++ [x]]) bt123.1 bt123.2.1 bt123.2.2)) v → (bars = true → e = s.size ∨ ¬ bt s (e : Int) = 124) → Ev (fun k => relation_read.l1 k s bars x8 x10 true s (i : Int)) v := by
        intro v h hno
        refine hP3 (Ev.step (f := _) (fun k => ?_) h) hno
        simp only [relation_read.l1, Bool.false_eq_true, if_false, if_pos (show x8.length < 5864062014805 by omega)]
      cases r with
      | nil =>
        have hes := at_nil he2 he3
        simp only [placeM, if_true]
        refine hP4 ?_ (fun _ => .inl hes)
        refine Ev.bind (takes_no s e 44 he2 (.inl hes)) ?_
        refine Ev.step (f := fun _ => some (x8 ++ [x10 ++ [x]], 0, 0)) (fun k => ?_) (Ev.now _)
        simp only [relation_read.l0, Bool.false_eq_true, if_false, if_neg (show ¬ (e : Int) < s.size by omega)]
      | cons c r =>
        obtain ⟨h1, h2, h3⟩ := at_cons he2 he3
        simp only
        by_cases hC : c = 124 ∧ bars = true
        · rw [if_pos hC]
          obtain ⟨hc, hbars⟩ := hC
          subst hc
          obtain ⟨f, hf1, hf2, hf3, hf4⟩ := takes_yes s hs e 124 h1 h2
          rw [h3] at hf3
          refine hP2 ?_
          simp only [if_pos hbars]
          refine Ev.bind hf4 ?_
          rw [← hf3]
          exact ih f (by omega) hf2 x8 (x10 ++ [x]) (by omega)
        · have hno : bars = true → e = s.size ∨ ¬ bt s (e : Int) = 124 := by
            intro hbars
            right
            rw [h2]
            exact fun q => hC ⟨toNat_inj.1 (show (c.toNat : Int) = ((124 : UInt8).toNat : Int) from q), hbars⟩
          rw [if_neg hC]
          by_cases hc : c = 44
          · rw [if_pos hc]
            subst hc
            obtain ⟨f, hf1, hf2, hf3, hf4⟩ := takes_yes s hs e 44 h1 h2
            rw [h3] at hf3
            refine hP4 ?_ hno
            refine Ev.bind hf4 ?_
            rw [← hf3]
            refine Ev.step (f := _) (fun k => ?_) (ih f (by omega) hf2 (x8 ++ [x10 ++ [x]]) [] (by rw [hlen8]; simp only [List.length_nil]; omega))
            simp only [relation_read.l0, if_true]
          · rw [if_neg hc]
            have hpl := place_at he2 he3
            simp only [placeM]
            rw [hpl]
            refine hP4 ?_ hno
            refine Ev.bind (takes_no s e 44 he2 (.inr ?_)) ?_
            · rw [h2]
              exact fun q => hc (toNat_inj.1 (show (c.toNat : Int) = ((44 : UInt8).toNat : Int) from q))
            · refine Ev.step (f := fun _ => some ([], 220, (e : Int))) (fun k => ?_) (Ev.now _)
              simp only [relation_read.l0, Bool.false_eq_true, if_false, if_pos (show (e : Int) < s.size by omega)]
theorem read_ev (s : ByteArray) (hb : s.size ≤ 3000000000000) (bars : Bool) : Ev (fun k => relation_read.f k s bars) (placeM s (readM bars s.data.toList)) := by
  have hs : s.size ≤ 140737488351232 := by omega
  obtain ⟨i, h1, h2, h3, hp⟩ := gaps_ev s hs s.size 0 (by omega)
  rw [at_zero] at h3
  unfold relation_read.f readM
  rw [← h3]
  refine Ev.bind hp ?_
  by_cases he : i = s.size
  · subst he
    simp only [if_true, at_end, placeM]
    exact Ev.now _
  · have hne : ¬ at_ s i = [] := fun q => he (at_nil h2 q)
    simp only [if_neg (show ¬ (i : Int) = s.size by omega), if_neg hne]
    refine Ev.step (f := _) (fun k => ?_) (lists_ev s hs hb bars ((at_ s i).length + 1) i (by rw [at_len]; omega) h2 [] [] (by simp))
    simp only [relation_read.l0, if_true]
end Go.Proofs.YtmocooihkobdjaaDoor.Model
end
section
set_option linter.unusedVariables false
set_option linter.unusedSimpArgs false
namespace Go.Proofs.YtmocooihkobdjaaDoor.Model
open Go.RowKit Go.Proofs.YtmocooihkobdjaaDoor.I Go.Proofs.YtmocooihkobdjaaDoorW.PrintWords Go.Proofs.YtmocooihkobdjaaDoorW.PrintLast Go.Proofs.YtmocooihkobdjaaDoor.Ver
def wt (l : List S46) : Nat := (l.map relSize).sum
theorem wt_one (x : S46) : wt [x] = relSize x := by simp [wt]
theorem wt_len {l : List S46} (h : ∀ x ∈ l, 1 ≤ x.f0.size) : l.length ≤ wt l := by
  induction l with
  | nil => exact Nat.zero_le _
  | cons x l ih =>
    have h1 := ih (fun y hy => h y (List.mem_cons_of_mem _ hy))
    have h2 := h x (List.mem_cons_self ..)
    have h3 : wt (x :: l) = relSize x + wt l := by simp [wt]
    rw [h3, List.length_cons]
    unfold relSize
    omega
def Good (x : S46) : Prop := formM x = true ∧ 1 ≤ x.f0.size
theorem listsM_ok (bars : Bool) : ∀ (d : Nat) (x8 : List (List S46)) (x10 : List S46) (l : B), l.length < d → (listsM bars d x8 x10 l).2.1 = 0 →
    (listsM bars d x8 x10 l).2.2 = [] ∧ ∃ t rest, (listsM bars d x8 x10 l).1 = x8 ++ (x10 ++ t) :: rest ∧ t ≠ [] ∧ (∀ m ∈ rest, m ≠ []) ∧ (∀ x ∈ t ++ rest.flatten, Good x) ∧ wt (t ++ rest.flatten) ≤ l.length := by
  intro d
  induction d with
  | zero => intro x8 x10 l h; omega
  | succ d ih =>
    intro x8 x10 l hd
    rw [listsM]
    split
    · rename_i e r hR
      intro h0
      have := (relM_inl hR).1
      simp only at h0
      omega
    · rename_i x hR
      intro _
      obtain ⟨f1, f2, f3, f4⟩ := relM_inr hR
      refine ⟨rfl, [x], [], by simp, by simp, by simp, ?_, ?_⟩
      · intro y hy
        obtain rfl : y = x := by simpa using hy
        exact ⟨f1, f2⟩
      · simp only [List.flatten_nil, List.append_nil, wt_one]
        simp at f3
        omega
    · rename_i x c r hR
      obtain ⟨f1, f2, f3, f4⟩ := relM_inr hR
      have hg := dg_le r
      simp only [List.length_cons] at f3
      have hsz : 1 ≤ relSize x := by unfold relSize; omega
      split
      · intro h0
        obtain ⟨a, t, rest, b1, b2, b3, b4, b5⟩ := ih x8 (x10 ++ [x]) (dg r) (by omega) h0
        refine ⟨a, x :: t, rest, by rw [b1]; simp, by simp, b3, ?_, ?_⟩
        · intro y hy
          rcases List.mem_cons.1 (show y ∈ x :: (t ++ rest.flatten) from hy) with q | q
          · rw [q]; exact ⟨f1, f2⟩
          · exact b4 y q
        · have : wt (x :: t ++ rest.flatten) = relSize x + wt (t ++ rest.flatten) := by simp [wt]
          omega
      · split
        · intro h0
          obtain ⟨a, t, rest, b1, b2, b3, b4, b5⟩ := ih (x8 ++ [x10 ++ [x]]) [] (dg r) (by omega) h0
          refine ⟨a, [x], ([] ++ t) :: rest, by rw [b1]; simp, by simp, ?_, ?_, ?_⟩
          · intro m hm
            rcases List.mem_cons.1 hm with q | q
            · rw [q]; simpa using b2
            · exact b3 m q
          · intro y hy
            have hy' : y ∈ x :: (t ++ rest.flatten) := by simpa using hy
            rcases List.mem_cons.1 hy' with q | q
            · rw [q]; exact ⟨f1, f2⟩
            · exact b4 y q
          · have : wt ([x] ++ (([] ++ t) :: rest).flatten) = relSize x + wt (t ++ rest.flatten) := by simp [wt]
            omega
        · intro h0
          simp at h0
theorem listsM_err (bars : Bool) : ∀ (d : Nat) (x8 : List (List S46)) (x10 : List S46) (l : B), l.length < d → ¬ (listsM bars d x8 x10 l).2.1 = 0 → (listsM bars d x8 x10 l).1 = [] := by
  intro d
  induction d with
  | zero => intro x8 x10 l h; omega
  | succ d ih =>
    intro x8 x10 l hd
    rw [listsM]
    split
    · intro _; rfl
    · intro h; exact absurd rfl h
    · rename_i x c r hR
      obtain ⟨f1, f2, f3, f4⟩ := relM_inr hR
      have hg := dg_le r
      simp only [List.length_cons] at f3
      split
      · exact ih _ _ _ (by omega)
      · split
        · exact ih _ _ _ (by omega)
        · intro _; rfl
theorem readM_ok (bars : Bool) (l : B) (h : (readM bars l).2.1 = 0) : (readM bars l).2.2 = [] ∧ (∀ m ∈ (readM bars l).1, m ≠ []) ∧ (∀ x ∈ (readM bars l).1.flatten, Good x) ∧ wt (readM bars l).1.flatten ≤ l.length := by
  unfold readM at h ⊢
  split at h
  · rename_i hn
    rw [if_pos hn]
    exact ⟨rfl, by simp, by simp, by simp [wt]⟩
  · rename_i hn
    rw [if_neg hn]
    obtain ⟨a, t, rest, b1, b2, b3, b4, b5⟩ := listsM_ok bars _ [] [] (dg l) (Nat.lt_succ_self _) h
    have hg := dg_le l
    have e : (listsM bars ((dg l).length + 1) [] [] (dg l)).1 = t :: rest := by simpa using b1
    rw [e]
    refine ⟨a, ?_, b4, Nat.le_trans b5 hg⟩
    intro m hm
    rcases List.mem_cons.1 hm with q | q
    · rw [q]; exact b2
    · exact b3 m q
theorem readM_err (bars : Bool) (l : B) (h : ¬ (readM bars l).2.1 = 0) : (readM bars l).1 = [] := by
  unfold readM at h ⊢
  split at h
  · exact absurd rfl h
  · rename_i hn
    rw [if_neg hn]
    exact listsM_err bars _ [] [] (dg l) (Nat.lt_succ_self _) h
theorem flat_len {L : List (List S46)} (h : ∀ m ∈ L, m ≠ []) : L.length ≤ L.flatten.length := by
  induction L with
  | nil => exact Nat.le_refl _
  | cons a L ih =>
    have h1 := ih (fun m hm => h m (List.mem_cons_of_mem _ hm))
    have h2 : 1 ≤ a.length := by
      rcases Nat.eq_zero_or_pos a.length with q | q
      · exact absurd (List.eq_nil_of_length_eq_zero q) (h a (List.mem_cons_self ..))
      · exact q
    simp only [List.flatten_cons, List.length_append, List.length_cons]
    omega
theorem readM_bd (bars : Bool) (l : B) : (readM bars l).1.flatten.length ≤ l.length ∧ (readM bars l).1.length ≤ l.length := by
  by_cases h : (readM bars l).2.1 = 0
  · obtain ⟨a, b, c, d⟩ := readM_ok bars l h
    have h1 := wt_len (fun x hx => (c x hx).2)
    have h2 := flat_len b
    omega
  · rw [readM_err bars l h]
    simp
end Go.Proofs.YtmocooihkobdjaaDoor.Model
end
section
set_option linter.unusedVariables false
set_option linter.unusedSimpArgs false
namespace Go.Proofs.YtmocooihkobdjaaDoor.Model
open Go.RowKit Go.Proofs.YtmocooihkobdjaaDoor.I Go.Proofs.YtmocooihkobdjaaDoorW.PrintWords Go.Proofs.YtmocooihkobdjaaDoorW.PrintLast Go.Proofs.YtmocooihkobdjaaDoor.Ver
theorem Read_ev (s : ByteArray) (hb : s.size ≤ 3000000000000) : Ev (fun k => relation_Read.f k s) (placeM s (readM true s.data.toList)) := by
  unfold relation_Read.f
  exact Ev.bind (read_ev s hb true) (Ev.now _)
end Go.Proofs.YtmocooihkobdjaaDoor.Model
end
section
set_option linter.unusedVariables false
set_option linter.unusedSimpArgs false
namespace Go.Proofs.YtmocooihkobdjaaDoor.Model
open Go.RowKit Go.Proofs.YtmocooihkobdjaaDoor.I Go.Proofs.YtmocooihkobdjaaDoorW.PrintWords Go.Proofs.YtmocooihkobdjaaDoorW.PrintLast Go.Proofs.YtmocooihkobdjaaDoor.Ver
theorem readlist_l0 (L : List (List S46)) (er p : Int) (hL : L.length ≤ 140737488351232) : ∀ (d i : Nat), i + d = L.length → ∀ acc : List S46, acc.length + (L.drop i).flatten.length < 3518437208883 → Ev (fun k => relation_ReadList.l0 k er p acc L (L.length : Int) (i : Int)) (acc ++ (L.drop i).flatten, er, p) := by
  intro d
  induction d with
  | zero =>
    intro i hi acc ha
    rw [List.drop_of_length_le (by omega), List.flatten_nil, List.append_nil]
    refine Ev.step (f := fun _ => some (acc, er, p)) (fun k => ?_) (Ev.now _)
    simp only [relation_ReadList.l0]
    rw [if_neg (by omega)]
  | succ d ih =>
    intro i hi acc ha
    have hi' : i < L.length := by omega
    have ew : wrap64 ((i : Int) + 1) = ((i + 1 : Nat) : Int) := by rw [wrap_id (by omega) (by omega)]; omega
    rw [drop_at hi', List.flatten_cons, List.length_append] at ha
    have hn := ih (i + 1) (by omega) (acc ++ L[i]) (by rw [List.length_append]; omega)
    rw [drop_at hi', List.flatten_cons, ← List.append_assoc]
    refine Ev.step (f := _) (fun k => ?_) hn
    simp only [relation_ReadList.l0, ew, rd_at hi', if_pos (show (i : Int) < L.length by omega), if_pos (show (0 : Int) ≤ i by omega), if_pos (show acc.length + L[i].length < 3518437208883 by omega)]
theorem ReadList_ev (s : ByteArray) (hb : s.size ≤ 3000000000000) : Ev (fun k => relation_ReadList.f k s) ((readM false s.data.toList).1.flatten, (placeM s (readM false s.data.toList)).2) := by
  unfold relation_ReadList.f
  refine Ev.bind (read_ev s hb false) ?_
  obtain ⟨b1, b2⟩ := readM_bd false s.data.toList
  have hz : s.data.toList.length = s.size := by simp
  have := readlist_l0 (readM false s.data.toList).1 (placeM s (readM false s.data.toList)).2.1 (placeM s (readM false s.data.toList)).2.2 (by omega) (readM false s.data.toList).1.length 0 (by omega) [] (by simp only [List.length_nil, List.drop_zero]; omega)
  simp only [List.drop_zero, List.nil_append] at this
  exact this
end Go.Proofs.YtmocooihkobdjaaDoor.Model
end
section
set_option linter.unusedVariables false
set_option linter.unusedSimpArgs false
namespace Go.Proofs.YtmocooihkobdjaaDoor.Model
open Go.RowKit Go.Proofs.YtmocooihkobdjaaDoor.I Go.Proofs.YtmocooihkobdjaaDoorW.PrintWords Go.Proofs.YtmocooihkobdjaaDoorW.PrintLast Go.Proofs.YtmocooihkobdjaaDoor.Ver
abbrev Q := List (List S46) × List S46 × List S48
def splitL : B → List B
  | [] => [[]]
  | c :: r => if c = 10 then [] :: splitL r else match splitL r with | [] => [[c]] | x :: xs => (c :: x) :: xs
theorem splitL_ne : ∀ l : B, splitL l ≠ []
  | [] => by simp [splitL]
  | c :: r => by
    unfold splitL
    split
    · simp
    · split <;> simp
theorem splitL_cons (c : UInt8) (r : B) (h : ¬ c = 10) : ∃ x xs, splitL r = x :: xs ∧ splitL (c :: r) = (c :: x) :: xs := by
  cases hs : splitL r with
  | nil => exact absurd hs (splitL_ne r)
  | cons x xs =>
    refine ⟨x, xs, rfl, ?_⟩
    rw [splitL, if_neg h, hs]
theorem splitK_eq : ∀ l : B, Lib.splitK [10] 0 (l.count 10) l = splitL l
  | [] => rfl
  | c :: r => by
    have ih := splitK_eq r
    by_cases hc : c = 10
    · subst hc
      have e : List.count (10 : UInt8) (10 :: r) = r.count 10 + 1 := by simp
      have ei : Lib.index ((10 : UInt8) :: r) [10] = 0 := by rw [Lib.index_one]; rfl
      rw [e, Lib.splitK, ei, if_neg (by decide), splitL, if_pos rfl, ← ih]
      simp
    · have e : List.count (10 : UInt8) (c :: r) = r.count 10 := by rw [List.count_cons_of_ne]; exact hc
      obtain ⟨x, xs, h1, h2⟩ := splitL_cons c r hc
      rw [e, h2]
      have hge := Lib.indexByte_ge r 10
      have ei : Lib.index (c :: r) [10] = if Lib.indexByte r 10 == -1 then -1 else Lib.indexByte r 10 + 1 := by
        rw [Lib.index_one, Lib.indexByte, if_neg (by simpa using hc)]
      cases hn : r.count 10 with
      | zero =>
        rw [hn] at ih
        rw [Lib.splitK] at ih ⊢
        rw [h1] at ih
        injection ih with e1 e2
        rw [e1, ← e2]
      | succ n =>
        rw [hn] at ih
        rw [Lib.splitK, Lib.index_one] at ih
        rw [Lib.splitK, ei]
        by_cases hm : (Lib.indexByte r 10 == -1) = true
        · rw [if_pos hm, h1] at ih
          rw [if_pos hm, if_pos (by decide)]
          injection ih with e1 e2
          rw [e1, ← e2]
        · rw [if_neg hm, h1] at ih
          have hm' : ¬ Lib.indexByte r 10 = -1 := fun q => hm (by rw [q]; rfl)
          rw [if_neg hm, if_neg (by simp; omega)]
          obtain ⟨i, hi⟩ : ∃ i : Nat, Lib.indexByte r 10 = (i : Int) := ⟨(Lib.indexByte r 10).toNat, by omega⟩
          rw [hi] at ih ⊢
          have e3 : ((i : Int) + 1).toNat = i + 1 := by omega
          rw [e3]
          simp only [Int.toNat_natCast, Nat.add_zero, List.take_succ_cons, List.length_cons, List.length_nil, Nat.zero_add, List.drop_succ_cons] at ih ⊢
          injection ih with e1 e2
          rw [e1, e2]
theorem split_map (s : ByteArray) : (Lib.splitB ⟨#[10]⟩ 0 (Lib.countB s ⟨#[10]⟩) s).map (·.data.toList) = splitL s.data.toList := by
  rw [Lib.splitB_data]
  have e : Lib.countB s ⟨#[10]⟩ = s.data.toList.count 10 := Lib.count_one 10 s.data.toList
  rw [e]
  exact splitK_eq s.data.toList
def blk (c : UInt8) : Bool := c == 32 || c == 9
theorem blk_eq (c : UInt8) : ([32, 9] : B).contains c = blk c := by
  simp only [List.contains, List.elem, blk]
  cases (c == 32) <;> cases (c == 9) <;> rfl
def trimM (l : B) : B := Lib.trimS l [32, 9]
def idleM (t : B) : Bool := match t with | [] => true | c :: _ => c == 35
def wordM (t : B) : B := t.takeWhile (fun c => !blk c)
def restM (t : B) : B := t.dropWhile (fun c => !blk c)
def wInstall : B := [105, 110, 115, 116, 97, 108, 108]
def wForbid : B := [102, 111, 114, 98, 105, 100]
def wPrefer : B := [112, 114, 101, 102, 101, 114]
def wAvoid : B := [97, 118, 111, 105, 100]
def wishL (b : Bool) (x : List S46) : List S48 := x.map fun r => ⟨b, r⟩
def stepM (t : B) (q : Q) : Q × Int :=
  if restM t = [] then (q, 240)
  else if wordM t = wInstall then ((q.1 ++ (readM true (restM t)).1, q.2.1, q.2.2), (readM true (restM t)).2.1)
  else if wordM t = wForbid then ((q.1, q.2.1 ++ (readM false (restM t)).1.flatten, q.2.2), (readM false (restM t)).2.1)
  else if wordM t = wPrefer then ((q.1, q.2.1, q.2.2 ++ wishL false (readM false (restM t)).1.flatten), (readM false (restM t)).2.1)
  else if wordM t = wAvoid then ((q.1, q.2.1, q.2.2 ++ wishL true (readM false (restM t)).1.flatten), (readM false (restM t)).2.1)
  else (q, 240)
def linesM : List B → Nat → Q → List (List S46) × List S46 × List S48 × Int × Int
  | [], _, q => (q.1, q.2.1, q.2.2, 0, 0)
  | l :: ls, i, q => if idleM (trimM l) = true then linesM ls (i + 1) q else if (stepM (trimM l) q).2 = 0 then linesM ls (i + 1) (stepM (trimM l) q).1 else ([], [], [], (stepM (trimM l) q).2, ((i + 1 : Nat) : Int))
def reqM (l : B) : List (List S46) × List S46 × List S48 × Int × Int := linesM (splitL l) 0 ([], [], [])
theorem dw_le (p : UInt8 → Bool) (l : B) : (l.dropWhile p).length ≤ l.length := (List.dropWhile_sublist _).length_le
theorem trim_le (l : B) : (trimM l).length ≤ l.length := by
  unfold trimM Lib.trimS Lib.trimLeftS Lib.trimRightS
  have h1 := dw_le ([32, 9].contains ·) (l.reverse.dropWhile ([32, 9].contains ·)).reverse
  have h2 := dw_le ([32, 9].contains ·) l.reverse
  rw [List.length_reverse] at h1 h2
  omega
theorem any_blk : ∀ t : B, Lib.indexAny t [32, 9] = if restM t = [] then -1 else ((wordM t).length : Int)
  | [] => rfl
  | c :: r => by
    have ih := any_blk r
    rw [Lib.indexAny, blk_eq, ih]
    unfold restM wordM
    cases hb : blk c with
    | true => simp [hb]
    | false =>
      have e1 : List.dropWhile (fun c => !blk c) (c :: r) = List.dropWhile (fun c => !blk c) r := by rw [List.dropWhile_cons_of_pos]; simp [hb]
      have e2 : List.takeWhile (fun c => !blk c) (c :: r) = c :: List.takeWhile (fun c => !blk c) r := by rw [List.takeWhile_cons_of_pos]; simp [hb]
      rw [e1, e2, if_neg (by decide)]
      by_cases h : List.dropWhile (fun c => !blk c) r = []
      · rw [if_pos h, if_pos h]
        rfl
      · rw [if_neg h, if_neg h, if_neg (by rw [beq_iff_eq]; omega), List.length_cons]
        omega
theorem wd_rest (t : B) : wordM t ++ restM t = t := List.takeWhile_append_dropWhile
theorem rest_le (t : B) : (restM t).length ≤ t.length := dw_le _ _
def szQ (q : Q) : Nat := q.1.length + q.2.1.length + q.2.2.length
theorem step_sz (t : B) (q : Q) : szQ (stepM t q).1 ≤ szQ q + t.length := by
  have hr := rest_le t
  obtain ⟨a1, a2⟩ := readM_bd true (restM t)
  obtain ⟨b1, b2⟩ := readM_bd false (restM t)
  unfold stepM szQ
  split
  · simp
  split
  · simp only [List.length_append]; omega
  split
  · simp only [List.length_append]; omega
  split
  · simp only [List.length_append, wishL, List.length_map]; omega
  split
  · simp only [List.length_append, wishL, List.length_map]; omega
  · simp
theorem pstep_ev (t : ByteArray) (q : Q) (hb : t.size ≤ 1000000000) (hq : szQ q ≤ 1000000000) : Ev (fun k => request_Read.step k t q) (stepM t.data.toList q) := by
  obtain ⟨l, rfl⟩ : ∃ l, t = ofL l := ⟨t.data.toList, (ofL_toL t).symm⟩
  rw [ofL_size] at hb
  have hla := any_blk l
  have hsz : (ofL l).size = l.length := ofL_size l
  have hwr := congrArg List.length (wd_rest l)
  rw [List.length_append] at hwr
  unfold request_Read.step
  simp only [toL_ofL, hla]
  unfold stepM
  by_cases h0 : restM l = []
  · simp only [if_pos h0]
    exact Ev.now _
  · simp only [if_neg h0]
    have e1 : (ofL l).extract 0 ((wordM l).length : Int).toNat = ofL (wordM l) := by
      have := ext_at (ofL l) 0 (wordM l).length
      simp only [at_zero, toL_ofL, Nat.sub_zero, Int.toNat_natCast, Int.toNat_zero, Int.natCast_zero] at this ⊢
      rw [this]
      congr 1
      exact take_tw _ _
    have e2 : (ofL l).extract ((wordM l).length : Int).toNat (ofL l).size = ofL (restM l) := by
      have := ext_at (ofL l) (wordM l).length (ofL l).size
      simp only [Int.toNat_natCast] at this ⊢
      rw [this]
      congr 1
      have e3 : at_ (ofL l) (wordM l).length = restM l := by
        unfold at_
        rw [toL_ofL]
        have h9 := List.drop_left (l₁ := wordM l) (l₂ := restM l)
        rw [wd_rest] at h9
        exact h9
      rw [e3, hsz]
      exact List.take_of_length_le (by omega)
    simp only [e1, e2, if_neg (show ¬ ((wordM l).length : Int) < 0 by omega)]
    have eqv : ∀ m : B, (ofL (wordM l) = ⟨m.toArray⟩) ↔ wordM l = m := by
      intro m
      constructor
      · intro h
        have := congrArg (fun x => x.data.toList) h
        simpa [ofL] using this
      · intro h; rw [h]; rfl
    have i1 := eqv wInstall
    have i2 := eqv wForbid
    have i3 := eqv wPrefer
    have i4 := eqv wAvoid
    have hrl : (ofL (restM l)).size ≤ 3000000000000 := by rw [ofL_size]; omega
    have hR := Read_ev (ofL (restM l)) hrl
    have hF := ReadList_ev (ofL (restM l)) hrl
    rw [toL_ofL] at hR hF
    obtain ⟨p1, hR⟩ : ∃ p1, Ev (fun k => relation_Read.f k (ofL (restM l))) ((readM true (restM l)).1, (readM true (restM l)).2.1, p1) := ⟨_, hR⟩
    obtain ⟨p2, hF⟩ : ∃ p2, Ev (fun k => relation_ReadList.f k (ofL (restM l))) ((readM false (restM l)).1.flatten, (readM false (restM l)).2.1, p2) := ⟨_, hF⟩
    obtain ⟨a1, a2⟩ := readM_bd true (restM l)
    obtain ⟨b1, b2⟩ := readM_bd false (restM l)
    unfold szQ at hq
    have er1 := readM_err true (restM l)
    have er2 := readM_err false (restM l)
    have c1 : (ofL (wordM l) = ⟨#[105, 110, 115, 116, 97, 108, 108]⟩) ↔ wordM l = wInstall := i1
    have c2 : (ofL (wordM l) = ⟨#[102, 111, 114, 98, 105, 100]⟩) ↔ wordM l = wForbid := i2
    have c3 : (ofL (wordM l) = ⟨#[112, 114, 101, 102, 101, 114]⟩) ↔ wordM l = wPrefer := i3
    have c4 : (ofL (wordM l) = ⟨#[97, 118, 111, 105, 100]⟩) ↔ wordM l = wAvoid := i4
    simp only [c1, c2, c3, c4]
    by_cases k1 : wordM l = wInstall
    · simp only [if_pos k1]
      refine Ev.bind hR ?_
      by_cases h : (readM true (restM l)).2.1 = 0
      · simp only [if_pos h, h]
        simp only [if_pos (show (q.1.length + (readM true (restM l)).1.length) * 24 ≤ 140737488355328 by omega)]
        exact Ev.now _
      · simp only [if_neg h]
        rw [er1 h, List.append_nil]
        exact Ev.now _
    simp only [if_neg k1]
    by_cases k2 : wordM l = wForbid
    · simp only [if_pos k2]
      refine Ev.bind hF ?_
      by_cases h : (readM false (restM l)).2.1 = 0
      · simp only [if_pos h, h]
        simp only [if_pos (show (q.2.1.length + (readM false (restM l)).1.flatten.length) * 40 ≤ 140737488355328 by omega)]
        exact Ev.now _
      · simp only [if_neg h]
        rw [er2 h, List.flatten_nil, List.append_nil]
        exact Ev.now _
    simp only [if_neg k2]
    by_cases k3 : wordM l = wPrefer
    · simp only [if_pos k3]
      refine Ev.bind hF ?_
      by_cases h : (readM false (restM l)).2.1 = 0
      · simp only [if_pos h, h]
        simp only [if_pos (show (q.2.2.length + (readM false (restM l)).1.flatten.length) * 48 ≤ 140737488355328 by omega)]
        exact Ev.now _
      · simp only [if_neg h]
        rw [er2 h, List.flatten_nil]
        unfold wishL
        rw [List.map_nil, List.append_nil]
        exact Ev.now _
    simp only [if_neg k3]
    by_cases k4 : wordM l = wAvoid
    · simp only [if_pos k4]
      refine Ev.bind hF ?_
      by_cases h : (readM false (restM l)).2.1 = 0
      · simp only [if_pos h, h]
        simp only [if_pos (show (q.2.2.length + (readM false (restM l)).1.flatten.length) * 48 ≤ 140737488355328 by omega)]
        exact Ev.now _
      · simp only [if_neg h]
        rw [er2 h, List.flatten_nil]
        unfold wishL
        rw [List.map_nil, List.append_nil]
        exact Ev.now _
    simp only [if_neg k4]
    exact Ev.now _
theorem idle_eq (t : ByteArray) : request_Read.idle t = idleM t.data.toList := by
  unfold request_Read.idle idleM
  cases t.data.toList <;> rfl
theorem ptrim (l : ByteArray) : request_Read.trim l = ofL (trimM l.data.toList) := rfl
theorem plines_ev : ∀ (ls : List ByteArray) (i : Nat) (q : Q), szQ q + ((ls.map (·.size)).sum) ≤ 1000000000 → Ev (fun k => request_Read.lines k ls i q) (linesM (ls.map (·.data.toList)) i q)
  | [], i, q, _ => Ev.now _
  | l :: ls, i, q, h => by
    rw [List.map_cons, List.sum_cons] at h
    have ht := trim_le l.data.toList
    have hl : l.data.toList.length = l.size := by simp
    have hz : (request_Read.trim l).size = (trimM l.data.toList).length := by rw [ptrim, ofL_size]
    simp only [request_Read.lines, List.map_cons, linesM]
    simp only [if_pos (show l.size < 4294967281 ∧ (request_Read.trim l).size < 4294967281 by rw [hz]; omega)]
    have hid : request_Read.idle (request_Read.trim l) = idleM (trimM l.data.toList) := by rw [idle_eq, ptrim, toL_ofL]
    rw [hid]
    by_cases hi : idleM (trimM l.data.toList) = true
    · simp only [if_pos hi]
      exact plines_ev ls (i + 1) q (by omega)
    · simp only [if_neg hi]
      have hs := pstep_ev (request_Read.trim l) q (by omega) (by omega)
      rw [ptrim, toL_ofL] at hs
      have hsz := step_sz (trimM l.data.toList) q
      refine Ev.bind hs ?_
      by_cases he : (stepM (trimM l.data.toList) q).2 = 0
      · simp only [if_pos he]
        exact plines_ev ls (i + 1) _ (by omega)
      · simp only [if_neg he]
        exact Ev.now _
theorem split_sum : ∀ l : B, ((splitL l).map List.length).sum ≤ l.length
  | [] => by simp [splitL]
  | c :: r => by
    have ih := split_sum r
    by_cases hc : c = 10
    · rw [splitL, if_pos hc]
      simp only [List.map_cons, List.length_nil, List.sum_cons, List.length_cons]
      omega
    · obtain ⟨x, xs, h1, h2⟩ := splitL_cons c r hc
      rw [h1] at ih
      rw [h2]
      simp only [List.map_cons, List.sum_cons, List.length_cons] at ih ⊢
      omega
theorem Req_ev (s : ByteArray) (hb : s.size ≤ 1000000000) : Ev (fun k => request_Read.f k s) (reqM s.data.toList) := by
  unfold request_Read.f reqM
  simp only [if_pos (show s.size < 4294967281 by omega)]
  rw [← split_map s]
  refine plines_ev _ 0 ([], [], []) ?_
  have h1 := split_sum s.data.toList
  rw [← split_map s, List.map_map] at h1
  have h2 : s.data.toList.length = s.size := by simp
  have h3 : (List.length ∘ fun x : ByteArray => x.data.toList) = (·.size) := by
    funext x
    show x.data.toList.length = x.size
    simp
  rw [h3] at h1
  simp only [szQ, List.length_nil]
  omega
end Go.Proofs.YtmocooihkobdjaaDoor.Model
end
section
set_option linter.unusedVariables false
set_option linter.unusedSimpArgs false
namespace Go.Proofs.YtmocooihkobdjaaDoor.Model
open Go.RowKit Go.Proofs.YtmocooihkobdjaaDoor.I Go.Proofs.YtmocooihkobdjaaDoorW.PrintWords Go.Proofs.YtmocooihkobdjaaDoorW.PrintLast Go.Proofs.YtmocooihkobdjaaDoor.Ver
theorem trimR_pos {c : UInt8} (l : B) (h : blk c = true) : Lib.trimRightS (c :: l) [32, 9] = if Lib.trimRightS l [32, 9] = [] then [] else c :: Lib.trimRightS l [32, 9] := by
  unfold Lib.trimRightS
  rw [List.reverse_cons, List.dropWhile_append]
  cases hd : List.dropWhile (fun x => ([32, 9] : B).contains x) l.reverse with
  | nil =>
    simp only [List.isEmpty_nil, if_true, List.reverse_nil]
    rw [List.dropWhile_cons_of_pos (by rw [blk_eq]; exact h)]
    rfl
  | cons x xs =>
    simp
theorem trimR_neg {c : UInt8} (l : B) (h : blk c = false) : Lib.trimRightS (c :: l) [32, 9] = c :: Lib.trimRightS l [32, 9] := by
  unfold Lib.trimRightS
  rw [List.reverse_cons, List.dropWhile_append]
  cases hd : List.dropWhile (fun x => ([32, 9] : B).contains x) l.reverse with
  | nil =>
    simp only [List.isEmpty_nil, if_true, List.reverse_nil]
    rw [List.dropWhile_cons_of_neg (by rw [blk_eq, h]; decide)]
    rfl
  | cons x xs =>
    simp
theorem trim_pos {c : UInt8} (l : B) (h : blk c = true) : trimM (c :: l) = trimM l := by
  unfold trimM Lib.trimS
  rw [trimR_pos l h]
  split
  · rename_i e
    rw [e]
  · unfold Lib.trimLeftS
    rw [List.dropWhile_cons_of_pos (by rw [blk_eq]; exact h)]
theorem trim_neg {c : UInt8} (l : B) (h : blk c = false) : trimM (c :: l) = Lib.trimRightS (c :: l) [32, 9] := by
  unfold trimM Lib.trimS
  rw [trimR_neg l h]
  unfold Lib.trimLeftS
  rw [List.dropWhile_cons_of_neg (by rw [blk_eq, h]; decide)]
theorem trimR_snoc (l : B) (c : UInt8) : Lib.trimRightS (l ++ [c]) [32, 9] = if blk c = true then Lib.trimRightS l [32, 9] else l ++ [c] := by
  unfold Lib.trimRightS
  rw [List.reverse_append, List.reverse_singleton, List.singleton_append]
  split
  · rename_i h
    rw [List.dropWhile_cons_of_pos (by rw [blk_eq]; exact h)]
  · rename_i h
    rw [List.dropWhile_cons_of_neg (by rw [blk_eq]; exact h)]
    simp
def Ends (l : B) : Prop := ∃ r c, l = r ++ [c] ∧ blk c = false
theorem Ends.app {b : B} (h : Ends b) (a : B) : Ends (a ++ b) := by
  obtain ⟨r, c, rfl, hc⟩ := h
  exact ⟨a ++ r, c, by rw [List.append_assoc], hc⟩
theorem trim_id {c : UInt8} {l : B} (h : blk c = false) (he : Ends (c :: l)) : trimM (c :: l) = c :: l := by
  rw [trim_neg l h]
  obtain ⟨r, d, e, hd⟩ := he
  rw [e, trimR_snoc, if_neg (by rw [hd]; decide)]
theorem trim_behind : ∀ (b : B), (∀ c ∈ b, blk c = true) → ∀ l : B, trimM (l ++ b) = trimM l := by
  have key : ∀ (n : Nat) (b : B), b.length = n → (∀ c ∈ b, blk c = true) → ∀ l : B, Lib.trimRightS (l ++ b) [32, 9] = Lib.trimRightS l [32, 9] := by
    intro n
    induction n with
    | zero =>
      intro b hb _ l
      obtain rfl := List.eq_nil_of_length_eq_zero hb
      rw [List.append_nil]
    | succ n ih =>
      intro b hb h l
      obtain ⟨m, c, rfl⟩ : ∃ m c, b = m ++ [c] := by
        rcases List.eq_nil_or_concat b with h | ⟨m, c, h⟩
        · rw [h] at hb; simp at hb
        · exact ⟨m, c, by simpa using h⟩
      rw [← List.append_assoc, trimR_snoc, if_pos (h c (by simp))]
      exact ih m (by simpa using hb) (fun x hx => h x (by simp [hx])) l
  intro b h l
  unfold trimM Lib.trimS
  rw [key b.length b rfl h l]
theorem trim_ahead : ∀ (b : B), (∀ c ∈ b, blk c = true) → ∀ l : B, trimM (b ++ l) = trimM l
  | [], _, l => rfl
  | c :: b, h, l => by
    rw [List.cons_append, trim_pos _ (h c (List.mem_cons_self ..))]
    exact trim_ahead b (fun x hx => h x (List.mem_cons_of_mem _ hx)) l
end Go.Proofs.YtmocooihkobdjaaDoor.Model
end
section
set_option linter.unusedVariables false
set_option linter.unusedSimpArgs false
namespace Go.Proofs.YtmocooihkobdjaaDoor.Model
open Go.RowKit Go.Proofs.YtmocooihkobdjaaDoor.I Go.Proofs.YtmocooihkobdjaaDoorW.PrintWords Go.Proofs.YtmocooihkobdjaaDoorW.PrintLast Go.Proofs.YtmocooihkobdjaaDoor.Ver
theorem listsM_more (bars : Bool) : ∀ (d e : Nat) (x8 : List (List S46)) (x10 : List S46) (l : B), l.length < d → l.length < e → listsM bars d x8 x10 l = listsM bars e x8 x10 l := by
  intro d
  induction d with
  | zero => intro e x8 x10 l h; omega
  | succ d ih =>
    intro e x8 x10 l h1 h2
    obtain ⟨e, rfl⟩ : ∃ m, e = m + 1 := ⟨e - 1, by omega⟩
    rw [listsM, listsM]
    cases hR : relM l with
    | mk q r =>
    cases q with
    | inl er => rfl
    | inr x =>
      obtain ⟨f1, f2, f3, f4⟩ := relM_inr hR
      cases r with
      | nil => rfl
      | cons c r =>
        have hg := dg_le r
        simp only [List.length_cons] at f3
        simp only
        split
        · exact ih _ _ _ _ (by omega) (by omega)
        · split
          · exact ih _ _ _ _ (by omega) (by omega)
          · rfl
def listsF (bars : Bool) (x8 : List (List S46)) (x10 : List S46) (l : B) : List (List S46) × Int × B := listsM bars (l.length + 1) x8 x10 l
theorem listsF_eq (bars : Bool) (x8 : List (List S46)) (x10 : List S46) (l : B) : listsF bars x8 x10 l = match relM l with
    | (.inl e, r) => ([], e, r)
    | (.inr x, []) => (x8 ++ [x10 ++ [x]], 0, [])
    | (.inr x, c :: r) => if c = 124 ∧ bars = true then listsF bars x8 (x10 ++ [x]) (dg r) else if c = 44 then listsF bars (x8 ++ [x10 ++ [x]]) [] (dg r) else ([], 220, c :: r) := by
  unfold listsF
  rw [listsM]
  cases hR : relM l with
  | mk q r =>
  cases q with
  | inl er => rfl
  | inr x =>
    obtain ⟨f1, f2, f3, f4⟩ := relM_inr hR
    cases r with
    | nil => rfl
    | cons c r =>
      have hg := dg_le r
      simp only [List.length_cons] at f3
      simp only
      split
      · exact listsM_more _ _ _ _ _ _ (by omega) (by omega)
      · split
        · exact listsM_more _ _ _ _ _ _ (by omega) (by omega)
        · rfl
theorem readM_eq (bars : Bool) (l : B) : readM bars l = if dg l = [] then ([], 0, []) else listsF bars [] [] (dg l) := rfl
def bareM : Bool → B → B → B
  | _, _, [] => []
  | b, p, c :: l => if gapB c = true then bareM b (p ++ [c]) l else if (b || sgnB c) = true then c :: bareM (sgnB c) [] l else p ++ c :: bareM (sgnB c) [] l
def N (l : B) : B := bareM true [] l
theorem wrd_no {c : UInt8} (h : wrdB c = true) : gapB c = false ∧ sgnB c = false := by
  unfold wrdB at h
  simpa using h
theorem mrk_wrd {c : UInt8} (h : mrkB c = true) : wrdB c = true := by
  exact byte_all (P := fun c => mrkB c = true → wrdB c = true) (by decide +kernel) c h
theorem bare_true (l : B) : ∀ p q, bareM true p l = bareM true q l := by
  induction l with
  | nil => intro p q; rfl
  | cons c l ih =>
    intro p q
    rw [bareM, bareM]
    split
    · exact ih _ _
    · rfl
theorem bare_pre (g : B) (hg : ∀ x ∈ g, gapB x = true) (b : Bool) (l : B) : ∀ p, bareM b p (g ++ l) = bareM b (p ++ g) l := by
  induction g with
  | nil => intro p; simp
  | cons c g ih =>
    intro p
    rw [List.cons_append, bareM, if_pos (hg c (List.mem_cons_self ..)), ih (fun x hx => hg x (List.mem_cons_of_mem _ hx))]
    simp
theorem dg_split (l : B) : l = l.takeWhile gapB ++ dg l ∧ ∀ x ∈ l.takeWhile gapB, gapB x = true :=
  ⟨(List.takeWhile_append_dropWhile (p := gapB) (l := l)).symm, fun x hx => by
    have := List.all_takeWhile (p := gapB) (l := l)
    exact List.all_eq_true.1 this x hx⟩
theorem dg_head {l r : B} {c : UInt8} (h : dg l = c :: r) : gapB c = false := by
  unfold dg at h
  induction l with
  | nil => simp at h
  | cons x l ih =>
    rw [List.dropWhile_cons] at h
    split at h
    · exact ih h
    · rename_i hx
      injection h with h1 h2
      rw [← h1]
      simpa using hx
theorem dg_cons {c : UInt8} (h : gapB c = false) (l : B) : dg (c :: l) = c :: l := by
  unfold dg
  rw [List.dropWhile_cons, if_neg (by simp [h])]
theorem N_dg (l : B) : N l = N (dg l) := by
  obtain ⟨h1, h2⟩ := dg_split l
  conv => lhs; rw [h1]
  unfold N
  rw [bare_pre _ h2]
  exact bare_true _ _ _
theorem N_cons {c : UInt8} (h : gapB c = false) (l : B) : N (c :: l) = c :: bareM (sgnB c) [] l := by
  unfold N
  rw [bareM, if_neg (by simp [h])]
  simp
theorem N_nil (l : B) : N l = [] ↔ dg l = [] := by
  rw [N_dg]
  cases hd : dg l with
  | nil => exact ⟨fun _ => rfl, fun _ => rfl⟩
  | cons c r =>
    rw [N_cons (dg_head hd)]
    exact ⟨fun h => by simp at h, fun h => by simp at h⟩
def Stops (l : B) : Prop := ∀ c r, l = c :: r → wrdB c = false
theorem stops_nil : Stops [] := fun c r h => by simp at h
theorem stops_cons {c : UInt8} {l : B} (h : wrdB c = false) : Stops (c :: l) := fun d r e => by
  injection e with e1 e2
  rw [← e1]; exact h
theorem tw_stops {p : UInt8 → Bool} {w l : B} (hw : ∀ x ∈ w, p x = true) (hl : ∀ c r, l = c :: r → p c = false) : (w ++ l).takeWhile p = w ∧ (w ++ l).dropWhile p = l := by
  induction w with
  | nil =>
    cases l with
    | nil => exact ⟨rfl, rfl⟩
    | cons c r =>
      have := hl c r rfl
      simp [List.takeWhile_cons, List.dropWhile_cons, this]
  | cons c w ih =>
    obtain ⟨h1, h2⟩ := ih (fun x hx => hw x (List.mem_cons_of_mem _ hx))
    have hc := hw c (List.mem_cons_self ..)
    simp [List.takeWhile_cons, List.dropWhile_cons, hc, h1, h2]
end Go.Proofs.YtmocooihkobdjaaDoor.Model
end
section
set_option linter.unusedVariables false
set_option linter.unusedSimpArgs false
namespace Go.Proofs.YtmocooihkobdjaaDoor.Ver
open Go.RowKit Go.Proofs.YtmocooihkobdjaaDoor.I Go.Proofs.YtmocooihkobdjaaDoorW.PrintWords Go.Proofs.YtmocooihkobdjaaDoorW.PrintLast
def allFrom (p : Int → Bool) (s : ByteArray) : Nat → Nat → Bool
  | 0, _ => true
  | d + 1, i => p (bt s i) && allFrom p s d (i + 1)
theorem allFrom_iff (p : Int → Bool) (s : ByteArray) : ∀ d i, allFrom p s d i = true ↔ ∀ j, i ≤ j → j < i + d → p (bt s j) = true := by
  intro d
  induction d with
  | zero =>
    intro i
    exact ⟨fun _ j h1 h2 => by omega, fun _ => rfl⟩
  | succ d ih =>
    intro i
    rw [allFrom, Bool.and_eq_true, ih (i + 1)]
    constructor
    · rintro ⟨h0, h1⟩ j hj1 hj2
      by_cases e : j = i
      · subst e; exact h0
      · exact h1 j (by omega) (by omega)
    · intro h
      exact ⟨h i (Nat.le_refl _) (by omega), fun j h1 h2 => h j (by omega) (by omega)⟩
theorem allFrom_runes (p : Int → Bool) (s : ByteArray) (hp : ∀ c : Int, 128 ≤ c → p c = false) : runesAll (fun c : Nat => p (c : Int)) s s.size 0 = allFrom p s s.size 0 := by
  rw [Bool.eq_iff_iff, runesAll_bytes _ (fun c h => hp _ (by omega)) s s.size 0 (by omega), allFrom_iff]
  constructor
  · intro h j _ hj
    have hj' : j < s.size := by omega
    rw [bt_eq s j hj']
    exact h j hj' (Nat.zero_le _)
  · intro h j hj _
    have := h j (Nat.zero_le _) (by omega)
    rwa [bt_eq s j hj] at this
def refUp (colon : Bool) (c : Int) : Bool := ltr c || (dgt c || (decide (c = 46) || (decide (c = 43) || (decide (c = 45) || (decide (c = 126) || (decide (c = 58) && colon))))))
def refRev (c : Int) : Bool := ltr c || (dgt c || (decide (c = 46) || (decide (c = 43) || decide (c = 126))))
theorem dgt_high (c : Int) (h : 128 ≤ c) : dgt c = false := by unfold dgt; exact decide_eq_false (by omega)
theorem ltr_high (c : Int) (h : 128 ≤ c) : ltr c = false := by
  unfold ltr
  rw [decide_eq_false (by omega), decide_eq_false (by omega)]
  rfl
theorem hasR_none (c : Int) : hasR emptyB c = false := rfl
theorem hasR_four (c : Int) : hasR ⟨#[46, 43, 45, 126]⟩ c = (decide (c = 46) || (decide (c = 43) || (decide (c = 45) || decide (c = 126)))) := by
  have h : hasR ⟨#[46, 43, 45, 126]⟩ c = !(decide (((46 : Nat) : Int) ≠ c) && (decide (((43 : Nat) : Int) ≠ c) && (decide (((45 : Nat) : Int) ≠ c) && (decide (((126 : Nat) : Int) ≠ c) && true)))) := rfl
  rw [h, Bool.eq_iff_iff]
  simp
  omega
theorem hasR_five (c : Int) : hasR ⟨#[46, 43, 45, 126, 58]⟩ c = (decide (c = 46) || (decide (c = 43) || (decide (c = 45) || (decide (c = 126) || decide (c = 58))))) := by
  have h : hasR ⟨#[46, 43, 45, 126, 58]⟩ c = !(decide (((46 : Nat) : Int) ≠ c) && (decide (((43 : Nat) : Int) ≠ c) && (decide (((45 : Nat) : Int) ≠ c) && (decide (((126 : Nat) : Int) ≠ c) && (decide (((58 : Nat) : Int) ≠ c) && true))))) := rfl
  rw [h, Bool.eq_iff_iff]
  simp
  omega
theorem hasR_three (c : Int) : hasR ⟨#[43, 46, 126]⟩ c = (decide (c = 43) || (decide (c = 46) || decide (c = 126))) := by
  have h : hasR ⟨#[43, 46, 126]⟩ c = !(decide (((43 : Nat) : Int) ≠ c) && (decide (((46 : Nat) : Int) ≠ c) && (decide (((126 : Nat) : Int) ≠ c) && true))) := rfl
  rw [h, Bool.eq_iff_iff]
  simp
  omega
theorem made_epoch : madeP false emptyB = fun c : Nat => dgt (c : Int) := by
  funext c
  unfold madeP
  rw [hasR_none]
  simp
theorem made_up (colon : Bool) : madeP true (othersOf colon) = fun c : Nat => refUp colon (c : Int) := by
  funext c
  unfold madeP refUp othersOf
  cases colon
  · simp only [Bool.false_eq_true, if_false]
    rw [hasR_four, Bool.eq_iff_iff]
    simp
    constructor
    · rintro ((h | h) | ⟨_, h⟩)
      · exact .inr (.inl h)
      · exact .inl h
      · exact .inr (.inr (by omega))
    · rintro (h | h | h)
      · exact .inl (.inr h)
      · exact .inl (.inl h)
      · exact .inr ⟨by omega, by omega⟩
  · simp only [if_true]
    rw [hasR_five, Bool.eq_iff_iff]
    simp
    constructor
    · rintro ((h | h) | ⟨_, h⟩)
      · exact .inr (.inl h)
      · exact .inl h
      · exact .inr (.inr (by omega))
    · rintro (h | h | h)
      · exact .inl (.inr h)
      · exact .inl (.inl h)
      · exact .inr ⟨by omega, by omega⟩
theorem made_rev : madeP true ⟨#[43, 46, 126]⟩ = fun c : Nat => refRev (c : Int) := by
  funext c
  unfold madeP refRev
  rw [hasR_three, Bool.eq_iff_iff]
  simp
  constructor
  · rintro ((h | h) | ⟨_, h⟩)
    · exact .inr (.inl h)
    · exact .inl h
    · exact .inr (.inr (by omega))
  · rintro (h | h | h)
    · exact .inl (.inr h)
    · exact .inl (.inl h)
    · exact .inr ⟨by omega, by omega⟩
theorem refUp_high (b : Bool) (c : Int) (h : 128 ≤ c) : refUp b c = false := by
  unfold refUp
  rw [dgt_high c h, ltr_high c h, decide_eq_false (by omega), decide_eq_false (by omega), decide_eq_false (by omega), decide_eq_false (by omega), decide_eq_false (by omega)]
  rfl
theorem refRev_high (c : Int) (h : 128 ≤ c) : refRev c = false := by
  unfold refRev
  rw [dgt_high c h, ltr_high c h, decide_eq_false (by omega), decide_eq_false (by omega), decide_eq_false (by omega)]
  rfl
theorem okS_eq (s : ByteArray) : okS s = (ok1 (colonS s) (minusS s) (epochS s) (upS s) (revS s) && (allFrom dgt (epochS s) (epochS s).size 0 && (allFrom (refUp (colonS s)) (upS s) (upS s).size 0 && allFrom refRev (revS s) (revS s).size 0))) := by
  unfold okS fin
  simp only
  rw [made_epoch, made_up, made_rev, allFrom_runes dgt _ dgt_high, allFrom_runes (refUp _) _ (refUp_high _), allFrom_runes refRev _ refRev_high]
theorem sub_le (s : ByteArray) (i : Int) : (upR s i).size ≤ s.size ∧ (revR s i).size ≤ s.size ∧ (epochR s i).size ≤ s.size := by
  unfold upR revR epochR
  refine ⟨?_, ?_, ?_⟩
  all_goals
    split
    · simp; try omega
    · first | exact Nat.le_refl _ | exact Nat.zero_le _
theorem empty_of (s : ByteArray) : s.toList = [] ↔ s.size = 0 := by
  rw [Lib.toList_data]
  constructor
  · intro h
    have : s.data.toList.length = 0 := by rw [h]; rfl
    simpa using this
  · intro h
    exact List.eq_nil_of_length_eq_zero (by simpa using h)
end Go.Proofs.YtmocooihkobdjaaDoor.Ver
end
section
set_option linter.unusedVariables false
set_option linter.unusedSimpArgs false
namespace Go.Proofs.YtmocooihkobdjaaDoor.Model
open Go.RowKit Go.Proofs.YtmocooihkobdjaaDoor.I Go.Proofs.YtmocooihkobdjaaDoorW.PrintWords Go.Proofs.YtmocooihkobdjaaDoorW.PrintLast Go.Proofs.YtmocooihkobdjaaDoor.Ver
theorem name_wrd {l : B} (h : nameM l = true) : (∀ x ∈ l, wrdB x = true) ∧ l ≠ [] := by
  unfold nameM at h
  rw [Bool.and_eq_true, decide_eq_true_eq] at h
  refine ⟨?_, fun e => by rw [e] at h; exact absurd h.2 (by decide)⟩
  have key : ∀ (l : B) (f : Bool), nameL f l = true → ∀ x ∈ l, wrdB x = true := by
    intro l
    induction l with
    | nil => intro f _ x hx; cases hx
    | cons c l ih =>
      intro f hf x hx
      rw [nameL, Bool.and_eq_true] at hf
      rcases List.mem_cons.1 hx with q | q
      · rw [q]
        have hb := hf.1
        cases f with
        | true => exact byte_all (P := fun c => namB true c = true → wrdB c = true) (by decide +kernel) c hb
        | false => exact byte_all (P := fun c => namB false c = true → wrdB c = true) (by decide +kernel) c hb
      · exact ih false hf.2 x q
  exact key l true h.1
def Wd (s : ByteArray) (j : Nat) : Prop := ∀ h : j < s.size, wrdB (s[j]'h) = true
theorem wd_all {s : ByteArray} (h : ∀ j, j < s.size → Wd s j) : ∀ x ∈ s.data.toList, wrdB x = true := by
  intro x hx
  obtain ⟨j, hj, e⟩ := List.getElem_of_mem hx
  have hj' : j < s.size := by simpa using hj
  have := h j hj' hj'
  rw [← e]
  exact this
theorem ext_byte (s : ByteArray) (a b j : Nat) (h : a + j < b) (hb : b ≤ s.size) : ∃ (h1 : j < (s.extract a b).size) (h2 : a + j < s.size), (s.extract a b)[j]'h1 = s[a + j]'h2 := by
  have h1 : j < (s.extract a b).size := by rw [ByteArray.size_extract]; omega
  exact ⟨h1, by omega, by simp [ByteArray.getElem_extract]⟩
theorem dgt_wrd (c : UInt8) (h : dgt (c.toNat : Int) = true) : wrdB c = true := byte_all (P := fun c => dgt (c.toNat : Int) = true → wrdB c = true) (by decide +kernel) c h
theorem up_wrd (b : Bool) (c : UInt8) (h : refUp b (c.toNat : Int) = true) : wrdB c = true := by
  cases b with
  | true => exact byte_all (P := fun c => refUp true (c.toNat : Int) = true → wrdB c = true) (by decide +kernel) c h
  | false => exact byte_all (P := fun c => refUp false (c.toNat : Int) = true → wrdB c = true) (by decide +kernel) c h
theorem rev_wrd (c : UInt8) (h : refRev (c.toNat : Int) = true) : wrdB c = true := byte_all (P := fun c => refRev (c.toNat : Int) = true → wrdB c = true) (by decide +kernel) c h
theorem all_wd {p : Int → Bool} (hp : ∀ c : UInt8, p (c.toNat : Int) = true → wrdB c = true) {s : ByteArray} (h : allFrom p s s.size 0 = true) : ∀ j, j < s.size → Wd s j := by
  intro j hj h'
  have := (allFrom_iff p s s.size 0).1 h j (Nat.zero_le _) (by omega)
  rw [bt_eq s j hj] at this
  exact hp _ this
theorem lastN_byte (s : ByteArray) (c : Int) : ∀ n, n ≤ s.size → 0 ≤ lastN s c n → bt s (lastN s c n) = c := by
  intro n
  induction n with
  | zero => intro _ h; simp [lastN] at h
  | succ n ih =>
    intro hn h
    unfold lastN at h ⊢
    split
    · assumption
    · rename_i hne
      rw [if_neg hne] at h
      exact ih (by omega) h
theorem colon_byte (s : ByteArray) (h : 0 ≤ colonI s) : ∃ hc : (colonI s).toNat < s.size, s[(colonI s).toNat]'hc = 58 := by
  have hb := colon_bd s
  have hi : Lib.indexByte s.data.toList 58 = ((colonI s).toNat : Int) := by unfold colonI at *; omega
  have h1 := (Lib.indexByte_some hi).1
  have hc : (colonI s).toNat < s.size := by omega
  refine ⟨hc, ?_⟩
  have hl : (colonI s).toNat < s.data.toList.length := by simpa using hc
  rw [List.getElem?_eq_getElem hl] at h1
  exact Option.some.inj h1
theorem wd_cut {s : ByteArray} {m : Nat} (hm : m < s.size) (h0 : ∀ j, j < (s.extract 0 m).size → Wd (s.extract 0 m) j) (h1 : wrdB (s[m]'hm) = true) (h2 : ∀ j, j < (s.extract (m + 1) s.size).size → Wd (s.extract (m + 1) s.size) j) : ∀ j, j < s.size → Wd s j := by
  intro j hj h'
  by_cases e : j = m
  · subst e; exact h1
  · by_cases l : j < m
    · obtain ⟨a1, a2, a3⟩ := ext_byte s 0 m j (by omega) (by omega)
      have := h0 j a1 a1
      rw [a3] at this
      simpa using this
    · obtain ⟨a1, a2, a3⟩ := ext_byte s (m + 1) s.size (j - (m + 1)) (by omega) (Nat.le_refl _)
      have := h2 _ a1 a1
      rw [a3] at this
      have e : m + 1 + (j - (m + 1)) = j := by omega
      simpa [e] using this
theorem ver_wrd {s : ByteArray} (h : okS s = true) : (∀ x ∈ s.data.toList, wrdB x = true) ∧ s.data.toList ≠ [] := by
  rw [okS_eq, Bool.and_eq_true, Bool.and_eq_true, Bool.and_eq_true] at h
  obtain ⟨k1, k2, k3, k4⟩ := h
  have w2 := all_wd dgt_wrd k2
  have w3 := all_wd (up_wrd _) k3
  have w4 := all_wd rev_wrd k4
  have hbd := colon_bd s
  have mbd := minus_bd s
  have hbeh : ∀ j, j < (behindS s).size → Wd (behindS s) j := by
    unfold upS upR at w3
    unfold revS revR at w4
    by_cases hm : 0 ≤ minusI s
    · rw [if_pos hm] at w3 w4
      have hlt : (minusI s).toNat < (behindS s).size := by omega
      have hby : wrdB ((behindS s)[(minusI s).toNat]'hlt) = true := by
        have h1 : bt (behindS s) (minusI s) = 45 := lastN_byte (behindS s) 45 _ (Nat.le_refl _) hm
        have e : minusI s = ((minusI s).toNat : Int) := by omega
        rw [e, bt_eq _ _ hlt] at h1
        have : (behindS s)[(minusI s).toNat]'hlt = 45 := toNat_inj.1 (show _ = ((45 : UInt8).toNat : Int) from h1)
        rw [this]; decide
      have e2 : (minusI s + 1).toNat = (minusI s).toNat + 1 := by omega
      rw [e2] at w4
      exact wd_cut hlt w3 hby w4
    · rw [if_neg hm] at w3
      exact w3
  have hall : ∀ j, j < s.size → Wd s j := by
    unfold epochS epochR at w2
    unfold behindS restR at hbeh
    by_cases hc : 0 ≤ colonI s
    · rw [if_pos hc] at w2 hbeh
      obtain ⟨hlt, hby⟩ := colon_byte s hc
      have e2 : (colonI s + 1).toNat = (colonI s).toNat + 1 := by omega
      rw [e2] at hbeh
      exact wd_cut hlt w2 (by rw [hby]; decide) hbeh
    · rw [if_neg hc] at hbeh
      exact hbeh
  refine ⟨wd_all hall, fun e => ?_⟩
  have hz : s.size = 0 := by
    have : s.data.toList.length = 0 := by rw [e]; rfl
    simpa using this
  unfold ok1 at k1
  rw [Bool.and_eq_true, Bool.and_eq_true] at k1
  have hu := k1.1.2
  have h1 := (sub_le (behindS s) (minusI s)).1
  have h2 := behind_le s
  have : (upS s).size = 0 := by unfold upS; omega
  rw [(empty_of (upS s)).2 this] at hu
  exact absurd hu (by decide)
end Go.Proofs.YtmocooihkobdjaaDoor.Model
end
section
set_option linter.unusedVariables false
set_option linter.unusedSimpArgs false
namespace Go.Proofs.YtmocooihkobdjaaDoor.Model
open Go.RowKit Go.Proofs.YtmocooihkobdjaaDoor.I Go.Proofs.YtmocooihkobdjaaDoorW.PrintWords Go.Proofs.YtmocooihkobdjaaDoorW.PrintLast Go.Proofs.YtmocooihkobdjaaDoor.Ver
theorem ofL_id (s : ByteArray) (h : s.toList = []) : s = ⟨#[]⟩ := by
  have := (toL_nil s).1 h
  exact this
where
  toL_nil (s : ByteArray) : s.toList = [] ↔ s = ⟨#[]⟩ := by
    constructor
    · intro h
      have h2 := ofL_toL s
      rw [ByteArray.toList_eq] at h
      rw [h] at h2
      exact h2.symm
    · intro h
      rw [h, ByteArray.toList_eq]
theorem data_ne {s : ByteArray} (h : ¬ s.toList = []) : s.data.toList ≠ [] := by
  rwa [ByteArray.toList_eq] at h
theorem form_parts {x : S46} (h : formM x = true) : nameM x.f0.data.toList = true ∧ ((x.f1 = 0 ∧ x.f2 = ⟨#[]⟩) ∨ (¬ x.f1 = 0 ∧ ¬ (wordOf x.f1).toList = [] ∧ okS x.f2 = true)) := by
  unfold formM at h
  rw [Bool.and_eq_true] at h
  refine ⟨h.1, ?_⟩
  have h2 := h.2
  split at h2
  · rename_i h0
    exact .inl ⟨h0, ofL_id _ (by simpa using h2)⟩
  · rename_i h0
    split at h2
    · cases h2
    · rename_i h1
      exact .inr ⟨h0, h1, h2⟩
theorem op_word {z : Int} (h : ¬ (wordOf z).toList = []) : opOf (wordOf z) = z ∧ (∀ x ∈ (wordOf z).data.toList, mrkB x = true) ∧ (wordOf z).data.toList ≠ [] := by
  refine ⟨?_, ?_, data_ne h⟩
  · revert h
    unfold wordOf
    repeat' split
    all_goals first
      | (rename_i e; subst e; intro _; unfold opOf; simp [ByteArray.toList_eq]; done)
      | (intro h; exact absurd (by rw [ByteArray.toList_eq]) h)
  · revert h
    unfold wordOf
    repeat' split
    all_goals first
      | (intro _; decide)
      | (intro h; exact absurd (by rw [ByteArray.toList_eq]) h)
theorem wrd_gap {l : B} (h : ∀ x ∈ l, wrdB x = true) (hn : l ≠ []) (r : B) : dg (l ++ r) = l ++ r := by
  cases l with
  | nil => exact absurd rfl hn
  | cons c l => exact dg_cons (wrd_no (h c (List.mem_cons_self ..))).1 _
theorem rel_text {x : S46} (h : formM x = true) {X : B} (hX : Stops X) (hp : ∀ r, dg X ≠ 40 :: r) : relM (textM x ++ X) = (.inr x, dg X) := by
  obtain ⟨hn, hb⟩ := form_parts h
  obtain ⟨n1, n2⟩ := name_wrd hn
  unfold textM
  rcases hb with ⟨h1, h2⟩ | ⟨h1, h2, h3⟩
  · rw [if_pos h1]
    obtain ⟨t1, t2⟩ := tw_stops n1 hX
    unfold relM
    rw [t1, t2, if_neg n2, if_neg (by simp [hn])]
    unfold openM
    split
    · rename_i e
      rw [e, ofL_toL]
      rw [show x = ⟨x.f0, x.f1, x.f2⟩ from rfl, h1, h2]
    · rename_i c r e
      rw [if_neg (fun q => hp r (by rw [e, q])), e, ofL_toL]
      rw [show x = ⟨x.f0, x.f1, x.f2⟩ from rfl, h1, h2]
  · rw [if_neg h1]
    obtain ⟨o1, o2, o3⟩ := op_word h2
    obtain ⟨v1, v2⟩ := ver_wrd h3
    rw [List.append_assoc]
    have hs : Stops (([32, 40] ++ ((wordOf x.f1).data.toList ++ ([32] ++ (x.f2.data.toList ++ [41])))) ++ X) := stops_cons (by decide)
    obtain ⟨t1, t2⟩ := tw_stops n1 hs
    unfold relM
    rw [t1, t2, if_neg n2, if_neg (by simp [hn])]
    have e1 : dg (([32, 40] ++ ((wordOf x.f1).data.toList ++ ([32] ++ (x.f2.data.toList ++ [41])))) ++ X) = 40 :: ((wordOf x.f1).data.toList ++ (32 :: (x.f2.data.toList ++ (41 :: X)))) := by
      simp [dg, List.dropWhile_cons, gapB]
    rw [e1]
    simp only [openM, if_true]
    rw [wrd_gap (fun y hy => mrk_wrd (o2 y hy)) o3]
    obtain ⟨m1, m2⟩ := tw_stops (p := mrkB) o2 (l := 32 :: (x.f2.data.toList ++ (41 :: X))) (fun c r e => by
      injection e with e1 e2
      rw [← e1]; decide)
    unfold operM
    rw [m1, m2, ofL_toL, o1, if_neg h1]
    have e2 : dg (32 :: (x.f2.data.toList ++ (41 :: X))) = x.f2.data.toList ++ (41 :: X) := by
      rw [dg, List.dropWhile_cons, if_pos (by decide)]
      exact wrd_gap v1 v2 _
    rw [e2]
    obtain ⟨w1, w2⟩ := tw_stops v1 (stops_cons (c := 41) (l := X) (by decide))
    unfold versM
    rw [w1, w2, if_neg v2, ofL_toL, if_neg (by simp [h3]), dg_cons (by decide)]
    simp only [closeM, if_true, ofL_toL]
theorem text_ne {x : S46} (h : formM x = true) : ∃ c r, textM x = c :: r ∧ gapB c = false := by
  obtain ⟨hn, _⟩ := form_parts h
  obtain ⟨n1, n2⟩ := name_wrd hn
  cases hl : x.f0.data.toList with
  | nil => exact absurd hl n2
  | cons c r =>
    have hg := (wrd_no (n1 c (by rw [hl]; exact List.mem_cons_self ..))).1
    unfold textM
    rw [hl]
    split
    · exact ⟨c, r, rfl, hg⟩
    · exact ⟨c, _, rfl, hg⟩
theorem dg_text {x : S46} (h : formM x = true) (X : B) : dg (textM x ++ X) = textM x ++ X := by
  obtain ⟨c, r, e, hg⟩ := text_ne h
  rw [e]
  exact dg_cons hg _
theorem row_text (bars : Bool) (x8 : List (List S46)) (Y : B) (hY : Y = [] ∨ ∃ Z, Y = 44 :: 32 :: Z) : ∀ (m : List S46) (x : S46) (x10 : List S46), (∀ y ∈ x :: m, formM y = true) → (m = [] ∨ bars = true) →
    listsF bars x8 x10 (textM x ++ (Lib.joinTail [32, 124, 32] (m.map textM) ++ Y)) = (match Y with
      | [] => (x8 ++ [x10 ++ x :: m], 0, [])
      | _ :: Z => listsF bars (x8 ++ [x10 ++ x :: m]) [] (dg Z)) := by
  intro m
  induction m with
  | nil =>
    intro x x10 hf _
    have hx := hf x (List.mem_cons_self ..)
    simp only [List.map_nil, Lib.joinTail, List.flatten_nil, List.nil_append]
    rcases hY with rfl | ⟨Z, rfl⟩
    · rw [listsF_eq, rel_text hx stops_nil (by simp [dg])]
      simp [dg]
    · rw [listsF_eq, rel_text hx (stops_cons (by decide)) (by rw [dg_cons (by decide)]; simp), dg_cons (by decide)]
      simp only
      rw [if_neg (by simp), if_pos trivial]
  | cons y m ih =>
    intro x x10 hf hb
    have hbars : bars = true := hb.resolve_left (by simp)
    have hx := hf x (List.mem_cons_self ..)
    have hy := hf y (List.mem_cons_of_mem _ (List.mem_cons_self ..))
    rw [List.map_cons, joinTail_cons, List.append_assoc]
    have hst : Stops ([32, 124, 32] ++ ((textM y ++ Lib.joinTail [32, 124, 32] (m.map textM)) ++ Y)) := stops_cons (by decide)
    have e1 : dg ([32, 124, 32] ++ ((textM y ++ Lib.joinTail [32, 124, 32] (m.map textM)) ++ Y)) = 124 :: 32 :: ((textM y ++ Lib.joinTail [32, 124, 32] (m.map textM)) ++ Y) := by
      simp [dg, List.dropWhile_cons, gapB]
    have e2 : dg (32 :: ((textM y ++ Lib.joinTail [32, 124, 32] (m.map textM)) ++ Y)) = textM y ++ (Lib.joinTail [32, 124, 32] (m.map textM) ++ Y) := by
      rw [dg, List.dropWhile_cons, if_pos (by decide), List.append_assoc]
      exact dg_text hy _
    rw [listsF_eq, rel_text hx hst (by rw [e1]; simp), e1]
    simp only
    rw [if_pos ⟨trivial, hbars⟩, e2, ih y (x10 ++ [x]) (fun z hz => hf z (List.mem_cons_of_mem _ hz)) (.inr hbars)]
    simp
theorem rows_text (bars : Bool) : ∀ (L : List (List S46)) (m : List S46) (x8 : List (List S46)), okL (m :: L) = true → ((∀ r ∈ m :: L, r.length = 1) ∨ bars = true) →
    listsF bars x8 [] (rowT m ++ Lib.joinTail [44, 32] (L.map rowT)) = (x8 ++ m :: L, 0, []) := by
  intro L
  induction L with
  | nil =>
    intro m x8 h hb
    simp only [okL, List.all_cons, List.all_nil, Bool.and_true, Bool.and_eq_true] at h
    cases m with
    | nil => simp at h
    | cons x m =>
      have hf := List.all_eq_true.1 h.2
      have hm : m = [] ∨ bars = true := by
        rcases hb with hb | hb
        · have := hb (x :: m) (List.mem_cons_self ..)
          exact .inl (List.eq_nil_of_length_eq_zero (by simpa using this))
        · exact .inr hb
      have := row_text bars x8 [] (.inl rfl) m x [] hf hm
      rw [rowT_cons]
      simp only [List.map_nil, Lib.joinTail, List.flatten_nil, List.append_nil, List.nil_append] at this ⊢
      exact this
  | cons m' L ih =>
    intro m x8 h hb
    have h' : okL (m' :: L) = true := by
      unfold okL at h ⊢
      rw [List.all_cons, Bool.and_eq_true] at h
      exact h.2
    have hm0 : (!m.isEmpty && m.all formM) = true := by
      unfold okL at h
      rw [List.all_cons, Bool.and_eq_true] at h
      exact h.1
    rw [Bool.and_eq_true] at hm0
    cases m with
    | nil => simp at hm0
    | cons x m =>
      have hf := List.all_eq_true.1 hm0.2
      have hm : m = [] ∨ bars = true := by
        rcases hb with hb | hb
        · have := hb (x :: m) (List.mem_cons_self ..)
          exact .inl (List.eq_nil_of_length_eq_zero (by simpa using this))
        · exact .inr hb
      have hb' : (∀ r ∈ m' :: L, r.length = 1) ∨ bars = true := hb.imp_left (fun q r hr => q r (List.mem_cons_of_mem _ hr))
      rw [List.map_cons, joinTail_cons, rowT_cons, List.append_assoc]
      have := row_text bars x8 (44 :: 32 :: (rowT m' ++ Lib.joinTail [44, 32] (L.map rowT))) (.inr ⟨_, rfl⟩) m x [] hf hm
      simp only [List.nil_append] at this
      show listsF bars x8 [] (textM x ++ (Lib.joinTail [32, 124, 32] (m.map textM) ++ (44 :: 32 :: (rowT m' ++ Lib.joinTail [44, 32] (L.map rowT))))) = _
      rw [this]
      have e2 : dg (32 :: (rowT m' ++ Lib.joinTail [44, 32] (L.map rowT))) = rowT m' ++ Lib.joinTail [44, 32] (L.map rowT) := by
        rw [dg, List.dropWhile_cons, if_pos (by decide)]
        have hm1 : (!m'.isEmpty && m'.all formM) = true := by
          unfold okL at h'
          rw [List.all_cons, Bool.and_eq_true] at h'
          exact h'.1
        rw [Bool.and_eq_true] at hm1
        cases m' with
        | nil => simp at hm1
        | cons y m' =>
          rw [rowT_cons, List.append_assoc]
          exact dg_text (List.all_eq_true.1 hm1.2 y (List.mem_cons_self ..)) _
      rw [e2, ih m' (x8 ++ [x :: m]) h' hb']
      simp
theorem read_texts (bars : Bool) (L : List (List S46)) (h : okL L = true) (hb : (∀ r ∈ L, r.length = 1) ∨ bars = true) : (readM bars (textsM L)).1 = L ∧ (readM bars (textsM L)).2.1 = 0 := by
  cases L with
  | nil => exact ⟨rfl, rfl⟩
  | cons m L =>
    unfold textsM
    rw [List.map_cons, Lib.join_cons, readM_eq]
    have hm0 : (!m.isEmpty && m.all formM) = true := by
      unfold okL at h
      rw [List.all_cons, Bool.and_eq_true] at h
      exact h.1
    rw [Bool.and_eq_true] at hm0
    have e2 : dg (rowT m ++ Lib.joinTail [44, 32] (L.map rowT)) = rowT m ++ Lib.joinTail [44, 32] (L.map rowT) ∧ rowT m ++ Lib.joinTail [44, 32] (L.map rowT) ≠ [] := by
      cases m with
      | nil => simp at hm0
      | cons y m' =>
        have hy := List.all_eq_true.1 hm0.2 y (List.mem_cons_self ..)
        rw [rowT_cons, List.append_assoc]
        obtain ⟨c, r, e, _⟩ := text_ne hy
        exact ⟨dg_text hy _, by rw [e]; simp⟩
    rw [e2.1, if_neg e2.2, rows_text bars L m [] h hb]
    exact ⟨rfl, rfl⟩
end Go.Proofs.YtmocooihkobdjaaDoor.Model
end
section
set_option linter.unusedVariables false
set_option linter.unusedSimpArgs false
namespace Go.Proofs.YtmocooihkobdjaaDoor.Model
open Go.RowKit Go.Proofs.YtmocooihkobdjaaDoor.I Go.Proofs.YtmocooihkobdjaaDoorW.PrintWords Go.Proofs.YtmocooihkobdjaaDoorW.PrintLast Go.Proofs.YtmocooihkobdjaaDoor.Ver
end Go.Proofs.YtmocooihkobdjaaDoor.Model
end
section
namespace Go.Proofs.YtmocooihkobdjaaDoor.Model
open Go.RowKit Go.Proofs.YtmocooihkobdjaaDoor.I
def relW (x : S46) : Nat := x.f0.size + x.f2.size + 1
def rowW (l : List S46) : Nat := (l.map relW).sum + 1
def rowsW (L : List (List S46)) : Nat := (L.map rowW).sum + 1
theorem relW_mem {l : List S46} {x : S46} (h : x ∈ l) : relW x ≤ (l.map relW).sum := by
  induction l with
  | nil => cases h
  | cons a l ih =>
    rw [List.map_cons, List.sum_cons]
    rcases List.mem_cons.1 h with q | q
    · rw [q]; omega
    · have := ih q; omega
theorem rowW_mem {L : List (List S46)} {m : List S46} (h : m ∈ L) : rowW m ≤ (L.map rowW).sum := by
  induction L with
  | nil => cases h
  | cons a l ih =>
    rw [List.map_cons, List.sum_cons]
    rcases List.mem_cons.1 h with q | q
    · rw [q]; omega
    · have := ih q; omega
theorem row_length (l : List S46) : l.length ≤ (l.map relW).sum := by
  induction l with
  | nil => simp
  | cons a l ih =>
    rw [List.map_cons, List.sum_cons, List.length_cons]
    unfold relW at *
    omega
theorem rows_length (L : List (List S46)) : L.length ≤ (L.map rowW).sum := by
  induction L with
  | nil => simp
  | cons a l ih =>
    rw [List.map_cons, List.sum_cons, List.length_cons]
    unfold rowW at *
    omega
theorem flat_weigh (L : List (List S46)) : (L.flatten.map relW).sum + L.length ≤ (L.map rowW).sum := by
  induction L with
  | nil => simp
  | cons a l ih =>
    rw [List.map_cons, List.sum_cons, List.flatten_cons, List.map_append, List.sum_append, List.length_cons]
    have : rowW a = (a.map relW).sum + 1 := rfl
    omega
end Go.Proofs.YtmocooihkobdjaaDoor.Model
end
section
set_option linter.unusedVariables false
set_option linter.unusedSimpArgs false
namespace Go.Proofs.YtmocooihkobdjaaDoor.Model
open Go.RowKit Go.Proofs.YtmocooihkobdjaaDoor.I Go.Proofs.YtmocooihkobdjaaDoorW.PrintWords Go.Proofs.YtmocooihkobdjaaDoorW.PrintLast Go.Proofs.YtmocooihkobdjaaDoor.Ver
def wrels (W : List S48) : List S46 := W.map (fun x => x.f1)
def reqW (L : List (List S46)) (F : List S46) (W : List S48) : Nat := rowsW L + (rowW F + rowW (wrels W))
def reqOk (L : List (List S46)) (F : List S46) (W : List S48) : Bool := okL L && ((wrels W).all formM && F.all formM)
theorem req_parts {L : List (List S46)} {F : List S46} {W : List S48} {n : Nat} (h : reqW L F W ≤ n) : (L.map rowW).sum + 1 ≤ n ∧ (F.map relW).sum + 1 ≤ n ∧ ((wrels W).map relW).sum + 1 ≤ n ∧ L.length + L.flatten.length + F.length + W.length ≤ n ∧ (L.flatten.map relW).sum ≤ n := by
  have e1 : rowsW L = (L.map rowW).sum + 1 := rfl
  have e2 : rowW F = (F.map relW).sum + 1 := rfl
  have e3 : rowW (wrels W) = ((wrels W).map relW).sum + 1 := rfl
  have l1 := flat_weigh L
  have l2 := row_length F
  have l3 := row_length (wrels W)
  have l4 := row_length L.flatten
  have l5 : (wrels W).length = W.length := by unfold wrels; rw [List.length_map]
  unfold reqW at h
  omega
theorem wt_at {l : List S48} {i : Nat} (h : i < l.length) : rd_T48 l (i : Int) = l[i] := by
  unfold rd_T48
  rw [Int.toNat_natCast, List.getD_eq_getElem?_getD, List.getElem?_eq_getElem h, Option.getD_some]
end Go.Proofs.YtmocooihkobdjaaDoor.Model
end
section
set_option linter.unusedVariables false
set_option linter.unusedSimpArgs false
namespace Go.Proofs.YtmocooihkobdjaaDoor.Model
open Go.RowKit Go.Proofs.YtmocooihkobdjaaDoor.I Go.Proofs.YtmocooihkobdjaaDoorW.PrintWords Go.Proofs.YtmocooihkobdjaaDoorW.PrintLast Go.Proofs.YtmocooihkobdjaaDoor.Ver
theorem awake_val : reqM [105, 110, 115, 116, 97, 108, 108, 32, 97, 97, 32, 124, 32, 98, 98, 10, 35, 32, 120, 10, 97, 118, 111, 105, 100, 32, 99, 99, 10] = ([[⟨ofL [97, 97], 0, ⟨#[]⟩⟩, ⟨ofL [98, 98], 0, ⟨#[]⟩⟩]], [], [⟨true, ⟨ofL [99, 99], 0, ⟨#[]⟩⟩⟩], 0, 0) := by kernel_rfl
theorem awake_ev : Ev (fun k => depotlaw24_awake.f k) true := by
  have h3 := Req_ev ⟨#[105, 110, 115, 116, 97, 108, 108, 32, 97, 97, 32, 124, 32, 98, 98, 10, 35, 32, 120, 10, 97, 118, 111, 105, 100, 32, 99, 99, 10]⟩ (by decide)
  rw [show (⟨#[105, 110, 115, 116, 97, 108, 108, 32, 97, 97, 32, 124, 32, 98, 98, 10, 35, 32, 120, 10, 97, 118, 111, 105, 100, 32, 99, 99, 10]⟩ : ByteArray).data.toList = [105, 110, 115, 116, 97, 108, 108, 32, 97, 97, 32, 124, 32, 98, 98, 10, 35, 32, 120, 10, 97, 118, 111, 105, 100, 32, 99, 99, 10] from rfl, awake_val] at h3
  unfold depotlaw24_awake.f
  refine Ev.bind h3 ?_
  refine Ev.congr (fun k => ?_) (Ev.now true)
  have e1 : (ofL [98, 98]).toList = [98, 98] := ofL_list _
  have e2 : (ofL [99, 99]).toList = [99, 99] := ofL_list _
  simp [rd_L3, rd_T46, rd_T48, e1, e2]
end Go.Proofs.YtmocooihkobdjaaDoor.Model
end
section
set_option linter.unusedVariables false
set_option linter.unusedSimpArgs false
namespace Go.Proofs.YtmocooihkobdjaaDoor.Model
open Go.RowKit Go.Proofs.YtmocooihkobdjaaDoor.I Go.Proofs.YtmocooihkobdjaaDoorW.PrintWords Go.Proofs.YtmocooihkobdjaaDoorW.PrintLast Go.Proofs.YtmocooihkobdjaaDoor.Ver
theorem form_ev (x : S46) (h : relW x ≤ 140737488351232) : Ev (fun k => relation_Formed.f k x.f0 x.f1 x.f2) (formM x) := by
  unfold relW at h
  have hn := name_ev x.f0 (by omega)
  have hl := plegal_ev x.f2 (by omega)
  unfold relation_Formed.f formM
  refine Ev.bind hn ?_
  cases nameM x.f0.data.toList with
  | false =>
    simp only [Bool.false_eq_true, if_false, Bool.false_and]
    exact Ev.now _
  | true =>
    simp only [if_true, Bool.true_and]
    by_cases h0 : x.f1 = 0
    · simp only [if_pos h0]
      exact Ev.now _
    · simp only [if_neg h0, relation_word.f, Option.bind_some]
      by_cases hw : (wordOf x.f1).toList = []
      · simp only [if_pos hw]
        exact Ev.now _
      · simp only [if_neg hw]
        exact Ev.bind hl (Ev.now _)
end Go.Proofs.YtmocooihkobdjaaDoor.Model
end
section
set_option linter.unusedVariables false
set_option linter.unusedSimpArgs false
namespace Go.Proofs.YtmocooihkobdjaaDoor.Model
open Go.RowKit Go.Proofs.YtmocooihkobdjaaDoor.I Go.Proofs.YtmocooihkobdjaaDoorW.PrintWords Go.Proofs.YtmocooihkobdjaaDoorW.PrintLast Go.Proofs.YtmocooihkobdjaaDoor.Ver
theorem contains_ev : ∀ (l : List S46), (∀ x ∈ l, relW x ≤ 140737488351232) → Ev (fun k => api_Rel_24.f k l) (!l.all formM) := by
  intro l
  unfold api_Rel_24.f
  induction l with
  | nil => intro _; exact Ev.now _
  | cons x l ih =>
    intro h
    have hx := form_ev x (h x (List.mem_cons_self ..))
    have hl := ih (fun y hy => h y (List.mem_cons_of_mem _ hy))
    unfold api_Rel_24.l0
    refine Ev.bind hx ?_
    rw [List.all_cons]
    cases formM x with
    | true => simp only [if_true, Bool.true_and]; exact hl
    | false => simp only [Bool.false_eq_true, if_false, Bool.false_and, Bool.not_false]; exact Ev.now _
theorem reqform_l1 (L : List (List S46)) (hL : (L.map rowW).sum ≤ 8388608) : ∀ (d i : Nat), i + d = L.length → ∀ l : List S46, l.length + (L.drop i).flatten.length ≤ 100000000 → (∀ x ∈ l, relW x ≤ 140737488351232) →
    Ev (fun k => request_Formed.l1 k l L (L.length : Int) (i : Int)) (full (L.drop i) && (l ++ (L.drop i).flatten).all formM) := by
  have hLl := rows_length L
  have hfw := flat_weigh L
  intro d
  induction d with
  | zero =>
    intro i hi l hl hx
    obtain rfl : i = L.length := by omega
    rw [List.drop_length, List.flatten_nil, List.append_nil]
    refine Ev.step (f := fun k => (api_Rel_24.f k l).bind fun t => some (!t)) (fun k => ?_) (Ev.bind (contains_ev l hx) ?_)
    · simp only [request_Formed.l1]
      rw [if_neg (by omega)]
    · simp only [Bool.not_not, full, List.all_nil, Bool.true_and]
      exact Ev.now _
  | succ d ih =>
    intro i hi l hl hx
    have hi' : i < L.length := by omega
    have ew : wrap64 ((i : Int) + 1) = ((i + 1 : Nat) : Int) := by rw [wrap_id (by omega) (by omega)]; omega
    rw [drop_at hi', List.flatten_cons] at hl ⊢
    rw [List.length_append] at hl
    by_cases h0 : L[i] = []
    · refine Ev.step (f := fun _ => some false) (fun k => ?_) ?_
      · simp only [request_Formed.l1, rd_at hi', h0, List.length_nil]
        rw [if_pos (by omega), if_pos (by omega), if_pos (by omega), if_pos (by rfl)]
      · rw [full, List.all_cons, h0]
        exact Ev.now _
    · have hz : ¬ ((L[i].length : Nat) : Int) = 0 := by
        have : L[i].length ≠ 0 := fun q => h0 (List.eq_nil_of_length_eq_zero q)
        omega
      have hrow := rowW_mem (List.getElem_mem hi')
      have hrw : rowW L[i] = (L[i].map relW).sum + 1 := rfl
      have hn := ih (i + 1) (by omega) (l ++ L[i]) (by rw [List.length_append]; omega) (fun x hxm => by
        rcases List.mem_append.1 hxm with q | q
        · exact hx x q
        · have := relW_mem q; omega)
      have e : (full (L[i] :: L.drop (i + 1)) && (l ++ (L[i] ++ (L.drop (i + 1)).flatten)).all formM) = (full (L.drop (i + 1)) && ((l ++ L[i]) ++ (L.drop (i + 1)).flatten).all formM) := by
        rw [full, List.all_cons, List.append_assoc]
        have : (!L[i].isEmpty) = true := by simpa using h0
        rw [this, Bool.true_and]; rfl
      rw [e]
      refine Ev.step (f := _) (fun k => ?_) hn
      simp only [request_Formed.l1, rd_at hi', ew]
      rw [if_pos (by omega), if_pos (by omega), if_pos (by omega), if_neg hz, if_pos (by omega)]
theorem reqform_ev (L : List (List S46)) (F : List S46) (W : List S48) (h : reqW L F W ≤ 8388608) : Ev (fun k => request_Formed.f k L F W) (reqOk L F W) := by
  obtain ⟨h1, h2, h3, h4, h5⟩ := req_parts h
  have hL1 := fun l a b => reqform_l1 L (by omega) L.length 0 (by omega) l a b
  have hFx : ∀ x ∈ F, relW x ≤ 140737488351232 := fun x q => by have := relW_mem q; omega
  have hWx : ∀ x ∈ wrels W, relW x ≤ 140737488351232 := fun x q => by have := relW_mem q; omega
  have hB : L.flatten.length + F.length + W.length ≤ 8388608 := by omega
  have hF : F.length ≤ 8388608 := by omega
  have hW : W.length ≤ 8388608 := by omega
  clear h h1 h2 h3 h4 h5
  have key : ∀ (d i : Nat), i + d = W.length → ∀ l : List S46, l = F ++ wrels (W.take i) → Ev (fun k => request_Formed.l0 k l W (W.length : Int) (i : Int) L F W) (reqOk L F W) := by
    intro d
    induction d with
    | zero =>
      intro i hi l hl
      obtain rfl : i = W.length := by omega
      rw [List.take_length] at hl
      have hlen : l.length = F.length + W.length := by rw [hl, List.length_append]; unfold wrels; rw [List.length_map]
      have hn := hL1 l (by rw [List.drop_zero]; omega) (fun x hx => by
        rw [hl] at hx
        rcases List.mem_append.1 hx with q | q
        · exact hFx x q
        · exact hWx x q)
      rw [List.drop_zero, hl] at hn
      have e : (full L && ((F ++ wrels W) ++ L.flatten).all formM) = reqOk L F W := by
        unfold reqOk
        rw [okL_parts, List.all_append, List.all_append, fair_flat]
        cases full L <;> cases fair L <;> cases F.all formM <;> cases (wrels W).all formM <;> rfl
      rw [e] at hn
      rw [hl]
      refine Ev.step (f := _) (fun k => ?_) hn
      simp only [request_Formed.l0]
      rw [if_neg (by omega)]
      rfl
    | succ d ih =>
      intro i hi l hl
      have hi' : i < W.length := by omega
      have ew : wrap64 ((i : Int) + 1) = ((i + 1 : Nat) : Int) := by rw [wrap_id (by omega) (by omega)]; omega
      have hlen : l.length = F.length + i := by rw [hl, List.length_append]; unfold wrels; rw [List.length_map, List.length_take]; omega
      have hn := ih (i + 1) (by omega) (l ++ [W[i].f1]) (by rw [List.take_succ_eq_append_getElem hi', hl]; unfold wrels; rw [List.map_append, List.append_assoc]; rfl)
      refine Ev.step (f := _) (fun k => ?_) hn
      simp only [request_Formed.l0, wt_at hi', ew]
      rw [if_pos (by omega), if_pos (by omega), if_pos (by omega), if_pos (by omega)]
  unfold request_Formed.f
  have hc : api_Rel_23.f F = some F := by
    unfold api_Rel_23.f
    simp only [Option.bind_some, List.length_nil, List.nil_append]
    rw [if_pos (by omega)]
  rw [hc]
  exact key W.length 0 (by omega) F (by simp [wrels])
end Go.Proofs.YtmocooihkobdjaaDoor.Model
end
section
set_option linter.unusedVariables false
set_option linter.unusedSimpArgs false
namespace Go.Proofs.YtmocooihkobdjaaDoor.Model
open Go.RowKit Go.Proofs.YtmocooihkobdjaaDoor.I Go.Proofs.YtmocooihkobdjaaDoorW.PrintWords Go.Proofs.YtmocooihkobdjaaDoorW.PrintLast Go.Proofs.YtmocooihkobdjaaDoor.Ver
theorem app_ofL (a b : ByteArray) : a ++ b = ofL (a.data.toList ++ b.data.toList) := by
  rw [← ofL_toL (a ++ b)]
  congr 1
theorem word_le (z : Int) : (wordOf z).size ≤ 2 := by
  unfold wordOf
  repeat' split
  all_goals decide
theorem text_law (x : S46) (h : relW x ≤ 140737488351232) : relation_text.f x.f0 x.f1 x.f2 = some (ofL (textM x)) := by
  unfold relW at h
  have hw := word_le x.f1
  have e2 : (⟨#[32, 40]⟩ : ByteArray).size = 2 := rfl
  have e1 : (⟨#[32]⟩ : ByteArray).size = 1 := rfl
  unfold relation_text.f textM
  by_cases h0 : x.f1 = 0
  · rw [if_pos h0, if_pos h0, ofL_toL]
  · rw [if_neg h0, if_neg h0]
    simp only [relation_word.f, Option.bind_some, ByteArray.size_append, e2, e1]
    rw [if_pos (by omega), if_pos (by omega), if_pos (by omega), if_pos (by omega), if_pos (by omega)]
    congr 1
    simp only [app_ofL, toL_ofL, List.append_assoc]
theorem textM_len (x : S46) : (textM x).length ≤ relW x + 5 := by
  have hw := word_le x.f1
  have a0 : x.f0.data.toList.length = x.f0.size := by simp
  have a2 : x.f2.data.toList.length = x.f2.size := by simp
  have a1 : (wordOf x.f1).data.toList.length = (wordOf x.f1).size := by simp
  unfold textM relW
  split
  · omega
  · simp only [List.length_append, List.length_cons, List.length_nil]
    omega
theorem join_len (sep : B) (xs : List B) : (Lib.join xs sep).length ≤ (xs.map (fun x => x.length + sep.length)).sum := by
  cases xs with
  | nil => simp [Lib.join_nil]
  | cons x r =>
    rw [Lib.join_cons, List.length_append, List.map_cons, List.sum_cons]
    have : (Lib.joinTail sep r).length = (r.map (fun x => x.length + sep.length)).sum := by
      induction r with
      | nil => rfl
      | cons y r ih =>
        rw [joinTail_cons, List.length_append, List.length_append, List.map_cons, List.sum_cons, ih]
        omega
    omega
theorem rowT_len (m : List S46) : (rowT m).length ≤ 9 * (m.map relW).sum := by
  have h1 := join_len [32, 124, 32] (m.map textM)
  have h2 : ((m.map textM).map (fun x => x.length + ([32, 124, 32] : B).length)).sum ≤ 9 * (m.map relW).sum := by
    clear h1
    induction m with
    | nil => simp
    | cons x m ih =>
      simp only [List.map_cons, List.sum_cons, List.length_cons, List.length_nil] at ih ⊢
      have := textM_len x
      have h3 : 1 ≤ relW x := by unfold relW; omega
      omega
  unfold rowT
  omega
theorem textsM_len (L : List (List S46)) : (textsM L).length ≤ 9 * (L.map rowW).sum := by
  have h1 := join_len [44, 32] (L.map rowT)
  have h2 : ((L.map rowT).map (fun x => x.length + ([44, 32] : B).length)).sum ≤ 9 * (L.map rowW).sum := by
    clear h1
    induction L with
    | nil => simp
    | cons m L ih =>
      simp only [List.map_cons, List.sum_cons, List.length_cons, List.length_nil] at ih ⊢
      have := rowT_len m
      have h3 : rowW m = (m.map relW).sum + 1 := rfl
      omega
  unfold textsM
  omega
theorem joinB_ofL (xs : List B) (sep : B) : joinB (xs.map ofL) (ofL sep) = ofL (Lib.join xs sep) := by
  unfold joinB
  rw [List.map_map]
  have : ((fun x : ByteArray => x.data.toList) ∘ ofL) = id := by
    funext x
    exact toL_ofL x
  rw [this, List.map_id, toL_ofL]
  rfl
theorem write_l1 (L : List (List S46)) (x4 : List ByteArray) (i : Nat) (n : Int) (m : List S46) (hm : (m.map relW).sum ≤ 10000000000) (h4 : x4.length < 8796093022208) (hi : (i : Int) + 1 ≤ 9223372036854775807) : ∀ (d j : Nat), j + d = m.length → ∀ x7 : List B, x7 = (m.take j).map textM →
    ((m.drop j).all formM = false → Ev (fun k => relation_Write.l1 k x4 (x7.map ofL) L n (i : Int) m (m.length : Int) (j : Int)) (⟨#[]⟩, 1)) ∧
    ((m.drop j).all formM = true → m = [] → Ev (fun k => relation_Write.l1 k x4 (x7.map ofL) L n (i : Int) m (m.length : Int) (j : Int)) (⟨#[]⟩, 1)) ∧
    ((m.drop j).all formM = true → m ≠ [] → ∀ v, Ev (fun k => relation_Write.l0 k (x4 ++ [ofL (rowT m)]) L n ((i + 1 : Nat) : Int)) v → Ev (fun k => relation_Write.l1 k x4 (x7.map ofL) L n (i : Int) m (m.length : Int) (j : Int)) v) := by
  have hml := row_length m
  intro d
  induction d with
  | zero =>
    intro j hj x7 hx
    obtain rfl : j = m.length := by omega
    rw [List.take_length] at hx
    have hjb := joinB_ofL (m.map textM) [32, 124, 32]
    have hlen := rowT_len m
    rw [List.drop_length]
    refine ⟨fun h => by simp at h, fun _ h0 => ?_, fun _ hne v h => ?_⟩
    · subst h0 hx
      refine Ev.step (f := fun _ => some (⟨#[]⟩, 1)) (fun k => ?_) (Ev.now _)
      simp [relation_Write.l1]
    · refine Ev.step (f := fun k => relation_Write.l0 k (x4 ++ [ofL (rowT m)]) L n ((i + 1 : Nat) : Int)) (fun k => ?_) h
      have hz : ¬ (((x7.map ofL).length : Nat) : Int) = 0 := by
        rw [hx, List.length_map, List.length_map]
        have : m.length ≠ 0 := fun q => hne (List.eq_nil_of_length_eq_zero q)
        omega
      have hl7 : (x7.map ofL).length = m.length := by rw [hx, List.length_map, List.length_map]
      have ew : wrap64 ((i : Int) + 1) = ((i + 1 : Nat) : Int) := by rw [wrap_id (by omega) (by omega)]; omega
      have hJ : strings_Join.f (x7.map ofL) ⟨#[32, 124, 32]⟩ = some (ofL (rowT m)) := by
        have e : joinB (x7.map ofL) ⟨#[32, 124, 32]⟩ = ofL (rowT m) := by rw [hx]; exact hjb
        unfold strings_Join.f
        rw [e, ofL_size, if_pos (by constructor <;> omega)]
      simp only [relation_Write.l1]
      rw [if_neg (by omega), if_neg hz, hJ]
      simp only [Option.bind_some]
      rw [if_pos h4, ew]
  | succ d ih =>
    intro j hj x7 hx
    have hj' : j < m.length := by omega
    have ew : wrap64 ((j : Int) + 1) = ((j + 1 : Nat) : Int) := by rw [wrap_id (by omega) (by omega)]; omega
    have hrel := relW_mem (List.getElem_mem hj')
    have hf := form_ev m[j] (by omega)
    have ht := text_law m[j] (by omega)
    have h7 : x7.length = j := by rw [hx, List.length_map, List.length_take]; omega
    have hx' : x7 ++ [textM m[j]] = (m.take (j + 1)).map textM := by
      rw [List.take_succ_eq_append_getElem hj', List.map_append, hx]; rfl
    have hP : ∀ {v}, Ev (fun k => if formM m[j] = true then relation_Write.l1 k x4 ((x7 ++ [textM m[j]]).map ofL) L n (i : Int) m (m.length : Int) ((j + 1 : Nat) : Int) else some (⟨#[]⟩, 1)) v → Ev (fun k => relation_Write.l1 k x4 (x7.map ofL) L n (i : Int) m (m.length : Int) (j : Int)) v := by
      intro v h
      refine Ev.step (f := fun k => (relation_Formed.f k m[j].f0 m[j].f1 m[j].f2).bind fun t => if t = true then relation_Write.l1 k x4 ((x7 ++ [textM m[j]]).map ofL) L n (i : Int) m (m.length : Int) ((j + 1 : Nat) : Int) else some (⟨#[]⟩, 1)) (fun k => ?_) (Ev.bind hf h)
      simp only [relation_Write.l1, rt_at hj', ht, Option.bind_some, ew]
      rw [if_pos (by omega), if_pos (by omega), if_pos (by omega), if_pos (by rw [List.length_map]; omega), List.map_append]
      rfl
    obtain ⟨i1, i2, i3⟩ := ih (j + 1) (by omega) (x7 ++ [textM m[j]]) hx'
    rw [drop_at hj', List.all_cons]
    cases hc : formM m[j] with
    | false =>
      rw [hc] at hP
      rw [Bool.false_and]
      refine ⟨fun _ => hP ?_, fun h => by simp at h, fun h => by simp at h⟩
      simp only [Bool.false_eq_true, if_false]
      exact Ev.now _
    | true =>
      rw [hc] at hP
      simp only [if_true] at hP
      rw [Bool.true_and]
      exact ⟨fun h => hP (i1 h), fun h h0 => hP (i2 h h0), fun h h0 v hv => hP (i3 h h0 v hv)⟩
theorem write_l0 (L : List (List S46)) (hL : (L.map rowW).sum ≤ 1000000000) : ∀ (d i : Nat), i + d = L.length → ∀ x4 : List B, x4 = (L.take i).map rowT →
    Ev (fun k => relation_Write.l0 k (x4.map ofL) L (L.length : Int) (i : Int)) (if okL (L.drop i) = true then (ofL (textsM L), 0) else (⟨#[]⟩, 1)) := by
  have hLl := rows_length L
  intro d
  induction d with
  | zero =>
    intro i hi x4 hx
    obtain rfl : i = L.length := by omega
    rw [List.take_length] at hx
    have hjb := joinB_ofL (L.map rowT) [44, 32]
    have hlen := textsM_len L
    rw [List.drop_length]
    simp only [okL, List.all_nil, if_true]
    refine Ev.step (f := fun _ => some (ofL (textsM L), 0)) (fun k => ?_) (Ev.now _)
    have hJ : strings_Join.f (x4.map ofL) ⟨#[44, 32]⟩ = some (ofL (textsM L)) := by
      have e : joinB (x4.map ofL) ⟨#[44, 32]⟩ = ofL (textsM L) := by rw [hx]; exact hjb
      have hl4 : (x4.map ofL).length = L.length := by rw [hx, List.length_map, List.length_map]
      unfold strings_Join.f
      rw [e, ofL_size, if_pos (by constructor <;> omega)]
    simp only [relation_Write.l0]
    rw [if_neg (by omega), hJ]
    rfl
  | succ d ih =>
    intro i hi x4 hx
    have hi' : i < L.length := by omega
    have hrow := rowW_mem (List.getElem_mem hi')
    have hrw : rowW L[i] = (L[i].map relW).sum + 1 := rfl
    have hm : (L[i].map relW).sum ≤ 10000000000 := by omega
    have h4 : (x4.map ofL).length = i := by rw [hx, List.length_map, List.length_map, List.length_take]; omega
    have hx' : x4 ++ [rowT L[i]] = (L.take (i + 1)).map rowT := by
      rw [List.take_succ_eq_append_getElem hi', List.map_append, hx]; rfl
    have hn := ih (i + 1) (by omega) (x4 ++ [rowT L[i]]) hx'
    obtain ⟨i1, i2, i3⟩ := write_l1 L (x4.map ofL) i (L.length : Int) L[i] hm (by omega) (by omega) L[i].length 0 (by omega) [] (by simp)
    have hP : ∀ {v}, Ev (fun k => relation_Write.l1 k (x4.map ofL) (([] : List B).map ofL) L (L.length : Int) (i : Int) L[i] (L[i].length : Int) ((0 : Nat) : Int)) v → Ev (fun k => relation_Write.l0 k (x4.map ofL) L (L.length : Int) (i : Int)) v := by
      intro v h
      refine Ev.step (f := _) (fun k => ?_) h
      simp only [relation_Write.l0, rd_at hi']
      rw [if_pos (by omega), if_pos (by omega), if_pos (by omega)]
      rfl
    rw [List.drop_zero] at i1 i2 i3
    rw [drop_at hi', okL, List.all_cons]
    cases hc : L[i].all formM with
    | false =>
      rw [Bool.and_false, Bool.false_and]
      simp only [Bool.false_eq_true, if_false]
      exact hP (i1 hc)
    | true =>
      rw [Bool.and_true]
      by_cases h0 : L[i] = []
      · rw [h0]
        simp only [List.isEmpty_nil, Bool.not_true, Bool.false_and, Bool.false_eq_true, if_false]
        have := i2 hc h0
        exact hP this
      · have hne : (!L[i].isEmpty) = true := by simpa using h0
        rw [hne, Bool.true_and]
        refine hP (i3 hc h0 _ ?_)
        rw [List.map_append] at hn
        exact hn
theorem write_ev (L : List (List S46)) (hL : (L.map rowW).sum ≤ 1000000000) : Ev (fun k => relation_Write.f k L) (if okL L = true then (ofL (textsM L), 0) else (⟨#[]⟩, 1)) := by
  have := write_l0 L hL L.length 0 (by omega) [] (by simp)
  rw [List.drop_zero] at this
  exact this
end Go.Proofs.YtmocooihkobdjaaDoor.Model
end
section
set_option linter.unusedVariables false
set_option linter.unusedSimpArgs false
namespace Go.Proofs.YtmocooihkobdjaaDoor.Model
open Go.RowKit Go.Proofs.YtmocooihkobdjaaDoor.I Go.Proofs.YtmocooihkobdjaaDoorW.PrintWords Go.Proofs.YtmocooihkobdjaaDoorW.PrintLast Go.Proofs.YtmocooihkobdjaaDoor.Ver
def singles (l : List S46) : List (List S46) := l.map (fun x => [x])
theorem singles_weigh (l : List S46) : ((singles l).map rowW).sum ≤ 2 * (l.map relW).sum := by
  unfold singles
  induction l with
  | nil => simp
  | cons x l ih =>
    simp only [List.map_cons, List.sum_cons] at ih ⊢
    have h1 : rowW [x] = relW x + 1 := by simp [rowW]
    have h2 : 1 ≤ relW x := by unfold relW; omega
    omega
theorem singles_ok (l : List S46) : okL (singles l) = l.all formM := by
  unfold okL singles
  induction l with
  | nil => rfl
  | cons x l ih => rw [List.map_cons, List.all_cons, List.all_cons, ih]; simp
theorem writelist_ev (l : List S46) (hl : (l.map relW).sum ≤ 400000000) : Ev (fun k => relation_WriteList.f k l) (if l.all formM = true then (ofL (textsM (singles l)), 0) else (⟨#[]⟩, 1)) := by
  have hlen := row_length l
  have hsw := singles_weigh l
  have key : ∀ (d i : Nat), i + d = l.length → ∀ x4 : List (List S46), x4 = singles (l.take i) → Ev (fun k => relation_WriteList.l0 k x4 l (l.length : Int) (i : Int)) (if l.all formM = true then (ofL (textsM (singles l)), 0) else (⟨#[]⟩, 1)) := by
    intro d
    induction d with
    | zero =>
      intro i hi x4 hx
      obtain rfl : i = l.length := by omega
      rw [List.take_length] at hx
      subst hx
      have hw := write_ev (singles l) (by omega)
      rw [singles_ok] at hw
      refine Ev.step (f := fun k => (relation_Write.f k (singles l)).bind fun bt => some (bt.1, bt.2)) (fun k => ?_) (Ev.bind hw (Ev.now _))
      simp only [relation_WriteList.l0]
      rw [if_neg (by omega)]
    | succ d ih =>
      intro i hi x4 hx
      have hi' : i < l.length := by omega
      have ew : wrap64 ((i : Int) + 1) = ((i + 1 : Nat) : Int) := by rw [wrap_id (by omega) (by omega)]; omega
      have h4 : x4.length = i := by rw [hx]; unfold singles; rw [List.length_map, List.length_take]; omega
      have hn := ih (i + 1) (by omega) (x4 ++ [[l[i]]]) (by rw [List.take_succ_eq_append_getElem hi', hx]; unfold singles; rw [List.map_append]; rfl)
      refine Ev.step (f := _) (fun k => ?_) hn
      simp only [relation_WriteList.l0, rt_at hi', ew]
      rw [if_pos (by omega), if_pos (by omega), if_pos (by omega), if_pos (by omega)]
  unfold relation_WriteList.f
  exact key l.length 0 (by omega) [] rfl
end Go.Proofs.YtmocooihkobdjaaDoor.Model
end
section
set_option linter.unusedVariables false
set_option linter.unusedSimpArgs false
namespace Go.Proofs.YtmocooihkobdjaaDoor.Model
open Go.RowKit Go.Proofs.YtmocooihkobdjaaDoor.I Go.Proofs.YtmocooihkobdjaaDoorW.PrintWords Go.Proofs.YtmocooihkobdjaaDoorW.PrintLast Go.Proofs.YtmocooihkobdjaaDoor.Ver
def tLst (o : List S46) : ByteArray := if okL [o] = true then ofL (textsM [o]) else ⟨#[]⟩
def tRel (x : S46) : ByteArray := if [x].all formM = true then ofL (textsM (singles [x])) else ⟨#[]⟩
def lineI (o : List S46) : B := (request_Write.line request_Write.insW (tLst o)).data.toList
def lineF (x : S46) : B := (request_Write.line request_Write.forbW (tRel x)).data.toList
def lineW (x : S48) : B := (request_Write.line (request_Write.wishW x.f0) (tRel x.f1)).data.toList
def insS (L : List (List S46)) : B := (L.map lineI).flatten
def forbS (F : List S46) : B := (F.map lineF).flatten
def wisS (W : List S48) : B := (W.map lineW).flatten
theorem ofL_len (s : ByteArray) : s.data.toList.length = s.size := by simp
theorem app_toL (a b : ByteArray) : (a ++ b).data.toList = a.data.toList ++ b.data.toList := by rw [app_ofL, toL_ofL]
theorem line_toL (w t : ByteArray) : (request_Write.line w t).data.toList = ((w.data.toList ++ [32]) ++ t.data.toList) ++ [10] := by
  unfold request_Write.line
  rw [app_toL, app_toL, app_toL]
theorem line_len (w t : ByteArray) (hw : w.size ≤ 7) : (request_Write.line w t).data.toList.length ≤ t.size + 9 := by
  rw [line_toL]
  simp only [List.length_append, ofL_len, List.length_cons, List.length_nil]
  omega
theorem tLst_len (o : List S46) : (tLst o).size ≤ 9 * rowW o := by
  unfold tLst
  split
  · rw [ofL_size]
    have := textsM_len [o]
    simp only [List.map_cons, List.map_nil, List.sum_cons, List.sum_nil] at this
    omega
  · exact Nat.zero_le _
theorem tRel_len (x : S46) : (tRel x).size ≤ 18 * relW x := by
  unfold tRel
  split
  · rw [ofL_size]
    have h1 := textsM_len (singles [x])
    have h2 := singles_weigh [x]
    simp only [List.map_cons, List.map_nil, List.sum_cons, List.sum_nil] at h2
    omega
  · exact Nat.zero_le _
theorem insS_len (L : List (List S46)) : (insS L).length ≤ 18 * (L.map rowW).sum := by
  unfold insS
  induction L with
  | nil => simp
  | cons o L ih =>
    rw [List.map_cons, List.flatten_cons, List.length_append, List.map_cons, List.sum_cons]
    have h1 : (lineI o).length ≤ (tLst o).size + 9 := line_len _ _ (by decide)
    have h2 := tLst_len o
    have h3 : rowW o = (o.map relW).sum + 1 := rfl
    omega
theorem forbS_len (F : List S46) : (forbS F).length ≤ 27 * (F.map relW).sum := by
  unfold forbS
  induction F with
  | nil => simp
  | cons x F ih =>
    rw [List.map_cons, List.flatten_cons, List.length_append, List.map_cons, List.sum_cons]
    have h1 : (lineF x).length ≤ (tRel x).size + 9 := line_len _ _ (by decide)
    have h2 := tRel_len x
    have h3 : 1 ≤ relW x := by unfold relW; omega
    omega
theorem wishW_len (b : Bool) : (request_Write.wishW b).size ≤ 7 := by cases b <;> decide
theorem wisS_len (W : List S48) : (wisS W).length ≤ 27 * ((wrels W).map relW).sum := by
  unfold wisS wrels
  induction W with
  | nil => simp
  | cons x W ih =>
    rw [List.map_cons, List.flatten_cons, List.length_append, List.map_cons, List.map_cons, List.sum_cons]
    have h1 : (lineW x).length ≤ (tRel x.f1).size + 9 := line_len _ _ (wishW_len _)
    have h2 := tRel_len x.f1
    have h3 : 1 ≤ relW x.f1 := by unfold relW; omega
    omega
theorem wr1 (o : List S46) (h : rowW o ≤ 8388608) : ∃ z, Ev (fun k => relation_Write.f k [o]) (tLst o, z) := by
  have := write_ev [o] (by simp only [List.map_cons, List.map_nil, List.sum_cons, List.sum_nil]; omega)
  unfold tLst
  cases hc : okL [o] with
  | true => rw [hc] at this; exact ⟨_, this⟩
  | false => rw [hc] at this; exact ⟨_, this⟩
theorem wl1 (x : S46) (h : relW x ≤ 8388608) : ∃ z, Ev (fun k => relation_WriteList.f k [x]) (tRel x, z) := by
  have := writelist_ev [x] (by simp only [List.map_cons, List.map_nil, List.sum_cons, List.sum_nil]; omega)
  unfold tRel
  cases hc : [x].all formM with
  | true => rw [hc] at this; exact ⟨_, this⟩
  | false => rw [hc] at this; exact ⟨_, this⟩
theorem ins_ev : ∀ (L : List (List S46)) (a : B), (∀ o ∈ L, rowW o ≤ 8388608) → a.length + (insS L).length ≤ 1099511627776 → Ev (fun k => request_Write.ins k L a) (a ++ insS L)
  | [], a, _, _ => by
    have e : a ++ insS [] = a := by simp [insS]
    rw [e]
    exact Ev.now _
  | o :: L, a, h, hs => by
    obtain ⟨z, hz⟩ := wr1 o (h o (List.mem_cons_self ..))
    have e : insS (o :: L) = lineI o ++ insS L := rfl
    rw [e, List.length_append] at hs
    rw [e, ← List.append_assoc]
    have ih := ins_ev L (a ++ lineI o) (fun m hm => h m (List.mem_cons_of_mem _ hm)) (by rw [List.length_append]; omega)
    refine Ev.bind hz ?_
    have hc : (a ++ (request_Write.line request_Write.insW (tLst o)).data.toList).length ≤ 1099511627776 := by
      rw [List.length_append]
      have : (request_Write.line request_Write.insW (tLst o)).data.toList.length = (lineI o).length := rfl
      omega
    simp only [if_pos hc]
    exact ih
theorem forb_ev : ∀ (L : List S46) (a : B), (∀ o ∈ L, relW o ≤ 8388608) → a.length + (forbS L).length ≤ 1099511627776 → Ev (fun k => request_Write.forb k L a) (a ++ forbS L)
  | [], a, _, _ => by
    have e : a ++ forbS [] = a := by simp [forbS]
    rw [e]
    exact Ev.now _
  | o :: L, a, h, hs => by
    obtain ⟨z, hz⟩ := wl1 o (h o (List.mem_cons_self ..))
    have e : forbS (o :: L) = lineF o ++ forbS L := rfl
    rw [e, List.length_append] at hs
    rw [e, ← List.append_assoc]
    have ih := forb_ev L (a ++ lineF o) (fun m hm => h m (List.mem_cons_of_mem _ hm)) (by rw [List.length_append]; omega)
    refine Ev.bind hz ?_
    have hc : (a ++ (request_Write.line request_Write.forbW (tRel o)).data.toList).length ≤ 1099511627776 := by
      rw [List.length_append]
      have : (request_Write.line request_Write.forbW (tRel o)).data.toList.length = (lineF o).length := rfl
      omega
    simp only [if_pos hc]
    exact ih
theorem wis_ev : ∀ (L : List S48) (a : B), (∀ o ∈ L, relW o.f1 ≤ 8388608) → a.length + (wisS L).length ≤ 1099511627776 → Ev (fun k => request_Write.wis k L a) (a ++ wisS L)
  | [], a, _, _ => by
    have e : a ++ wisS [] = a := by simp [wisS]
    rw [e]
    exact Ev.now _
  | o :: L, a, h, hs => by
    obtain ⟨z, hz⟩ := wl1 o.f1 (h o (List.mem_cons_self ..))
    have e : wisS (o :: L) = lineW o ++ wisS L := rfl
    rw [e, List.length_append] at hs
    rw [e, ← List.append_assoc]
    have ih := wis_ev L (a ++ lineW o) (fun m hm => h m (List.mem_cons_of_mem _ hm)) (by rw [List.length_append]; omega)
    refine Ev.bind hz ?_
    have hc : (a ++ (request_Write.line (request_Write.wishW o.f0) (tRel o.f1)).data.toList).length ≤ 1099511627776 := by
      rw [List.length_append]
      have : (request_Write.line (request_Write.wishW o.f0) (tRel o.f1)).data.toList.length = (lineW o).length := rfl
      omega
    simp only [if_pos hc]
    exact ih
def reqText (L : List (List S46)) (F : List S46) (W : List S48) : B := (([] ++ insS L) ++ forbS F) ++ wisS W
theorem three_small (a b c l1 l2 l3 : Nat) (h1 : a + 1 ≤ 8388608) (h2 : b + 1 ≤ 8388608) (h3 : c + 1 ≤ 8388608) (s1 : l1 ≤ 18 * a) (s2 : l2 ≤ 27 * b) (s3 : l3 ≤ 27 * c) : l1 + (l2 + l3) ≤ 999999999 := by omega
theorem four_small (p q r s : Nat) (h : p + q + r + s ≤ 8388608) : p ≤ 100000000 ∧ r ≤ 100000000 ∧ s ≤ 100000000 := by omega
theorem mem_small (a b : Nat) (h : b + 1 ≤ 8388608) (h2 : a ≤ b) : a ≤ 8388608 := by omega
theorem req_small {L : List (List S46)} {F : List S46} {W : List S48} (h : reqW L F W ≤ 8388608) :
    (∀ o ∈ L, rowW o ≤ 8388608) ∧ (∀ o ∈ F, relW o ≤ 8388608) ∧ (∀ o ∈ W, relW o.f1 ≤ 8388608) ∧ (insS L).length + ((forbS F).length + (wisS W).length) ≤ 999999999 ∧ L.length ≤ 100000000 ∧ F.length ≤ 100000000 ∧ W.length ≤ 100000000 :=
  have ⟨h1, h2, h3, h4, h5⟩ := req_parts h
  ⟨fun o ho => mem_small _ _ h1 (rowW_mem ho), fun o ho => mem_small _ _ h2 (relW_mem ho), fun o ho => mem_small _ _ h3 (relW_mem (l := wrels W) (List.mem_map.2 ⟨o, ho, rfl⟩)),
    three_small _ _ _ _ _ _ h1 h2 h3 (insS_len L) (forbS_len F) (wisS_len W), four_small _ _ _ _ h4⟩
theorem reqwrite_ev (L : List (List S46)) (F : List S46) (W : List S48) (h : reqW L F W ≤ 8388608) : Ev (fun k => request_Write.f k L F W) (if reqOk L F W = true then (ofL (reqText L F W), 0) else (⟨#[]⟩, 1)) := by
  obtain ⟨a1, a2, a3, a4, _⟩ := req_small h
  unfold request_Write.f
  refine Ev.bind (reqform_ev L F W h) ?_
  cases reqOk L F W with
  | false =>
    simp only [Bool.false_eq_true, if_false]
    exact Ev.now _
  | true =>
    simp only [if_true]
    refine Ev.bind (ins_ev L [] a1 (by simp only [List.length_nil]; omega)) ?_
    refine Ev.bind (forb_ev F _ a2 (by simp only [List.length_append, List.length_nil]; omega)) ?_
    refine Ev.bind (wis_ev W _ a3 (by simp only [List.length_append, List.length_nil]; omega)) ?_
    exact Ev.now _
theorem lineI_at (o : List S46) : lineI o = (([105, 110, 115, 116, 97, 108, 108, 32] : B) ++ (tLst o).data.toList) ++ [10] := by unfold lineI; rw [line_toL]; rfl
theorem lineF_at (x : S46) : lineF x = (([102, 111, 114, 98, 105, 100, 32] : B) ++ (tRel x).data.toList) ++ [10] := by unfold lineF; rw [line_toL]; rfl
theorem lineW_at (x : S48) : lineW x = ((if x.f0 = true then ([97, 118, 111, 105, 100, 32] : B) else [112, 114, 101, 102, 101, 114, 32]) ++ (tRel x.f1).data.toList) ++ [10] := by
  unfold lineW
  rw [line_toL]
  cases x.f0 <;> rfl
end Go.Proofs.YtmocooihkobdjaaDoor.Model
end
section
set_option linter.unusedVariables false
set_option linter.unusedSimpArgs false
namespace Go.Proofs.YtmocooihkobdjaaDoor.Model
open Go.RowKit Go.Proofs.YtmocooihkobdjaaDoor.I Go.Proofs.YtmocooihkobdjaaDoorW.PrintWords Go.Proofs.YtmocooihkobdjaaDoorW.PrintLast Go.Proofs.YtmocooihkobdjaaDoor.Ver
theorem wrd_ok {c : UInt8} (h : wrdB c = true) : c ≠ 10 ∧ blk c = false := byte_all (P := fun c => wrdB c = true → c ≠ 10 ∧ blk c = false) (by decide +kernel) c h
theorem mrk_ok {c : UInt8} (h : mrkB c = true) : c ≠ 10 := byte_all (P := fun c => mrkB c = true → c ≠ 10) (by decide +kernel) c h
theorem ends_all {l : B} (hn : l ≠ []) (h : ∀ x ∈ l, blk x = false) : Ends l := by
  rcases List.eq_nil_or_concat l with e | ⟨m, c, e⟩
  · exact absurd e hn
  · have e' : l = m ++ [c] := by simpa using e
    exact ⟨m, c, e', h c (by rw [e']; simp)⟩
theorem text_ok {x : S46} (h : formM x = true) : (∀ c ∈ textM x, c ≠ 10) ∧ Ends (textM x) := by
  obtain ⟨hn, hv⟩ := form_parts h
  obtain ⟨n1, n2⟩ := name_wrd hn
  unfold textM
  rcases hv with ⟨e0, _⟩ | ⟨e0, e1, e2⟩
  · rw [if_pos e0]
    exact ⟨fun c hc => (wrd_ok (n1 c hc)).1, ends_all n2 (fun c hc => (wrd_ok (n1 c hc)).2)⟩
  · rw [if_neg e0]
    obtain ⟨_, o1, _⟩ := op_word e1
    obtain ⟨v1, _⟩ := ver_wrd e2
    refine ⟨fun c hc => ?_, ?_⟩
    · simp only [List.mem_append, List.mem_cons, List.not_mem_nil, or_false] at hc
      rcases hc with hc | (rfl | rfl) | hc | rfl | hc | rfl
      · exact (wrd_ok (n1 c hc)).1
      · decide
      · decide
      · exact mrk_ok (o1 c hc)
      · decide
      · exact (wrd_ok (v1 c hc)).1
      · decide
    · refine Ends.app (Ends.app (Ends.app (Ends.app (Ends.app ?_ _) _) _) _) _
      exact ⟨[], 41, rfl, rfl⟩
theorem row_ok : ∀ (m : List S46) (x : S46), (∀ y ∈ x :: m, formM y = true) → (∀ c ∈ rowT (x :: m), c ≠ 10) ∧ Ends (rowT (x :: m))
  | [], x, h => by
    rw [rowT_cons]
    have := text_ok (h x (List.mem_cons_self ..))
    simpa [Lib.joinTail] using this
  | y :: m, x, h => by
    have ih := row_ok m y (fun z hz => h z (List.mem_cons_of_mem _ hz))
    have hx := text_ok (h x (List.mem_cons_self ..))
    rw [rowT_cons] at ih
    rw [rowT_cons, List.map_cons, joinTail_cons]
    refine ⟨fun c hc => ?_, Ends.app (Ends.app ih.2 _) _⟩
    rw [List.mem_append, List.mem_append] at hc
    rcases hc with hc | hc | hc
    · exact hx.1 c hc
    · simp only [List.mem_cons, List.not_mem_nil, or_false] at hc
      rcases hc with rfl | rfl | rfl <;> decide
    · exact ih.1 c hc
theorem texts_one (o : List S46) : textsM [o] = rowT o := by
  unfold textsM
  rw [List.map_cons, List.map_nil, Lib.join_cons]
  simp [Lib.joinTail]
def lnI (o : List S46) : B := wInstall ++ 32 :: rowT o
def lnF (x : S46) : B := wForbid ++ 32 :: rowT [x]
def lnW (x : S48) : B := (if x.f0 = true then wAvoid else wPrefer) ++ 32 :: rowT [x.f1]
theorem lineI_ln {o : List S46} (h : okL [o] = true) : lineI o = lnI o ++ [10] := by
  rw [lineI_at]
  unfold tLst lnI
  rw [if_pos h, toL_ofL, texts_one]
  simp [wInstall]
theorem lineF_ln {x : S46} (h : formM x = true) : lineF x = lnF x ++ [10] := by
  rw [lineF_at]
  unfold tRel lnF
  rw [if_pos (by simp [h]), toL_ofL]
  have e : singles [x] = [[x]] := rfl
  rw [e, texts_one]
  simp [wForbid]
theorem lineW_ln {x : S48} (h : formM x.f1 = true) : lineW x = lnW x ++ [10] := by
  rw [lineW_at]
  unfold tRel lnW
  have hc : [x.f1].all formM = true := by simp [h]
  rw [if_pos hc, toL_ofL]
  have e : singles [x.f1] = [[x.f1]] := rfl
  rw [e, texts_one]
  cases x.f0 <;> simp [wAvoid, wPrefer]
theorem wr_of {w : B} (hw : ∀ c ∈ w, blk c = false) (r : B) : wordM (w ++ 32 :: r) = w ∧ restM (w ++ 32 :: r) = 32 :: r := by
  have e1 : wordM (w ++ 32 :: r) = w := by
    unfold wordM
    rw [List.takeWhile_append_of_pos (fun c hc => by simp [hw c hc]), List.takeWhile_cons_of_neg (by decide), List.append_nil]
  refine ⟨e1, ?_⟩
  have := wd_rest (w ++ 32 :: r)
  rw [e1] at this
  exact List.append_cancel_left this
theorem read_blank (bars : Bool) (l : B) : readM bars (32 :: l) = readM bars l := by
  unfold readM
  have e : dg (32 :: l) = dg l := by unfold dg; rw [List.dropWhile_cons_of_pos (by decide)]
  rw [e]
def Fine (t : B) : Prop := trimM t = t ∧ idleM t = false ∧ ∀ c ∈ t, c ≠ 10
theorem fine_of {c : UInt8} {w r : B} (hc : blk c = false) (hi : (c == 35) = false) (hw : ∀ x ∈ c :: w, x ≠ 10) (hr : ∀ x ∈ r, x ≠ 10) (he : Ends r) : Fine ((c :: w) ++ 32 :: r) := by
  refine ⟨?_, ?_, fun x hx => ?_⟩
  · have e : (c :: w) ++ 32 :: r = c :: ((w ++ [32]) ++ r) := by simp
    rw [e]
    exact trim_id hc (Ends.app (a := c :: (w ++ [32])) he)
  · exact hi
  · rw [List.mem_append] at hx
    rcases hx with hx | hx
    · exact hw x hx
    · rw [List.mem_cons] at hx
      rcases hx with rfl | hx
      · decide
      · exact hr x hx
theorem rowne {o : List S46} (h : okL [o] = true) : ∃ x m, o = x :: m ∧ ∀ y ∈ x :: m, formM y = true := by
  unfold okL at h
  rw [List.all_cons, List.all_nil, Bool.and_true, Bool.and_eq_true] at h
  cases o with
  | nil => simp at h
  | cons x m => exact ⟨x, m, rfl, fun y hy => List.all_eq_true.1 h.2 y hy⟩
theorem step_I {o : List S46} (h : okL [o] = true) (q : Q) : Fine (lnI o) ∧ stepM (lnI o) q = ((q.1 ++ [o], q.2.1, q.2.2), 0) := by
  obtain ⟨x, m, rfl, hm⟩ := rowne h
  obtain ⟨r1, r2⟩ := row_ok m x hm
  refine ⟨fine_of (by decide) (by decide) (by decide) r1 r2, ?_⟩
  obtain ⟨e1, e2⟩ := wr_of (w := wInstall) (by decide) (rowT (x :: m))
  have hr := read_texts true [x :: m] h (.inr rfl)
  rw [texts_one] at hr
  unfold lnI stepM
  rw [e1, e2, if_neg (by simp), if_pos rfl, read_blank, hr.1, hr.2]
theorem ok_one {x : S46} (h : formM x = true) : okL [[x]] = true := by simp [okL, h]
theorem step_F {x : S46} (h : formM x = true) (q : Q) : Fine (lnF x) ∧ stepM (lnF x) q = ((q.1, q.2.1 ++ [x], q.2.2), 0) := by
  obtain ⟨r1, r2⟩ := row_ok [] x (by simpa using h)
  refine ⟨fine_of (by decide) (by decide) (by decide) r1 r2, ?_⟩
  obtain ⟨e1, e2⟩ := wr_of (w := wForbid) (by decide) (rowT [x])
  have hr := read_texts false [[x]] (ok_one h) (.inl (by simp))
  rw [texts_one] at hr
  unfold lnF stepM
  rw [e1, e2, if_neg (by simp), if_neg (by decide), if_pos rfl, read_blank, hr.1, hr.2]
  simp
theorem step_W {x : S48} (h : formM x.f1 = true) (q : Q) : Fine (lnW x) ∧ stepM (lnW x) q = ((q.1, q.2.1, q.2.2 ++ [x]), 0) := by
  obtain ⟨b, y⟩ := x
  obtain ⟨r1, r2⟩ := row_ok [] y (by simpa using h)
  have hr := read_texts false [[y]] (ok_one h) (.inl (by simp))
  rw [texts_one] at hr
  cases b with
  | true =>
    refine ⟨fine_of (c := 97) (w := [118, 111, 105, 100]) (by decide) (by decide) (by decide) r1 r2, ?_⟩
    obtain ⟨e1, e2⟩ := wr_of (w := wAvoid) (by decide) (rowT [y])
    unfold lnW stepM
    simp only [if_true]
    rw [e1, e2, if_neg (by simp), if_neg (by decide), if_neg (by decide), if_neg (by decide), if_pos rfl, read_blank, hr.1, hr.2]
    rfl
  | false =>
    refine ⟨fine_of (c := 112) (w := [114, 101, 102, 101, 114]) (by decide) (by decide) (by decide) r1 r2, ?_⟩
    obtain ⟨e1, e2⟩ := wr_of (w := wPrefer) (by decide) (rowT [y])
    unfold lnW stepM
    simp only [Bool.false_eq_true, if_false]
    rw [e1, e2, if_neg (by simp), if_neg (by decide), if_neg (by decide), if_pos rfl, read_blank, hr.1, hr.2]
    rfl
def lnsM (L : List (List S46)) (F : List S46) (W : List S48) : List B := L.map lnI ++ (F.map lnF ++ W.map lnW)
def full10 (ls : List B) : B := (ls.map (· ++ [10])).flatten
theorem full10_app (a b : List B) : full10 (a ++ b) = full10 a ++ full10 b := by unfold full10; rw [List.map_append, List.flatten_append]
theorem text_lns {L : List (List S46)} {F : List S46} {W : List S48} (h : reqOk L F W = true) : reqText L F W = full10 (lnsM L F W) := by
  unfold reqOk at h
  rw [Bool.and_eq_true, Bool.and_eq_true] at h
  obtain ⟨h1, h2, h3⟩ := h
  have a1 : insS L = full10 (L.map lnI) := by
    unfold insS full10
    rw [List.map_map]
    congr 1
    refine List.map_congr_left (fun o ho => ?_)
    have : okL [o] = true := by
      have := List.all_eq_true.1 h1 o ho
      simpa [okL] using this
    exact lineI_ln this
  have a2 : forbS F = full10 (F.map lnF) := by
    unfold forbS full10
    rw [List.map_map]
    congr 1
    exact List.map_congr_left (fun o ho => lineF_ln (List.all_eq_true.1 h3 o ho))
  have a3 : wisS W = full10 (W.map lnW) := by
    unfold wisS full10
    rw [List.map_map]
    congr 1
    exact List.map_congr_left (fun o ho => lineW_ln (List.all_eq_true.1 h2 _ (List.mem_map.2 ⟨o, ho, rfl⟩)))
  unfold reqText lnsM
  rw [full10_app, full10_app, a1, a2, a3, List.nil_append, List.append_assoc]
theorem split_line : ∀ (t r : B), (∀ c ∈ t, c ≠ 10) → splitL (t ++ 10 :: r) = t :: splitL r
  | [], r, _ => by rw [List.nil_append, splitL, if_pos rfl]
  | c :: t, r, h => by
    have ih := split_line t r (fun x hx => h x (List.mem_cons_of_mem _ hx))
    rw [List.cons_append, splitL, if_neg (h c (List.mem_cons_self ..)), ih]
theorem lines_cons {t : B} (ls : List B) (i : Nat) (q q' : Q) (hf : Fine t) (hs : stepM t q = (q', 0)) : linesM (t :: ls) i q = linesM ls (i + 1) q' := by
  obtain ⟨h1, h2, _⟩ := hf
  rw [linesM, h1, h2, if_neg (by decide), hs]
  simp
theorem lines_I : ∀ (L : List (List S46)) (ls : List B) (i : Nat) (q : Q), okL L = true → linesM (L.map lnI ++ ls) i q = linesM ls (i + L.length) (q.1 ++ L, q.2.1, q.2.2)
  | [], ls, i, q, _ => by simp
  | o :: L, ls, i, q, h => by
    unfold okL at h
    rw [List.all_cons, Bool.and_eq_true] at h
    have ho : okL [o] = true := by simpa [okL] using h.1
    obtain ⟨hf, hs⟩ := step_I ho q
    rw [List.map_cons, List.cons_append, lines_cons _ i q _ hf hs, lines_I L ls (i + 1) _ h.2]
    simp only [List.append_assoc, List.singleton_append, List.length_cons]
    congr 1
    omega
theorem lines_F : ∀ (F : List S46) (ls : List B) (i : Nat) (q : Q), F.all formM = true → linesM (F.map lnF ++ ls) i q = linesM ls (i + F.length) (q.1, q.2.1 ++ F, q.2.2)
  | [], ls, i, q, _ => by simp
  | x :: F, ls, i, q, h => by
    rw [List.all_cons, Bool.and_eq_true] at h
    obtain ⟨hf, hs⟩ := step_F h.1 q
    rw [List.map_cons, List.cons_append, lines_cons _ i q _ hf hs, lines_F F ls (i + 1) _ h.2]
    simp only [List.append_assoc, List.singleton_append, List.length_cons]
    congr 1
    omega
theorem lines_W : ∀ (W : List S48) (ls : List B) (i : Nat) (q : Q), (wrels W).all formM = true → linesM (W.map lnW ++ ls) i q = linesM ls (i + W.length) (q.1, q.2.1, q.2.2 ++ W)
  | [], ls, i, q, _ => by simp
  | x :: W, ls, i, q, h => by
    unfold wrels at h
    rw [List.map_cons, List.all_cons, Bool.and_eq_true] at h
    obtain ⟨hf, hs⟩ := step_W h.1 q
    rw [List.map_cons, List.cons_append, lines_cons _ i q _ hf hs, lines_W W ls (i + 1) _ h.2]
    simp only [List.append_assoc, List.singleton_append, List.length_cons]
    congr 1
    omega
theorem lns_no10 {L : List (List S46)} {F : List S46} {W : List S48} (h : reqOk L F W = true) : ∀ l ∈ lnsM L F W, Fine l := by
  unfold reqOk at h
  rw [Bool.and_eq_true, Bool.and_eq_true] at h
  obtain ⟨h1, h2, h3⟩ := h
  intro l hl
  unfold lnsM at hl
  rw [List.mem_append, List.mem_append, List.mem_map, List.mem_map, List.mem_map] at hl
  rcases hl with ⟨o, ho, rfl⟩ | ⟨o, ho, rfl⟩ | ⟨o, ho, rfl⟩
  · have : okL [o] = true := by
      have := List.all_eq_true.1 h1 o ho
      simpa [okL] using this
    exact (step_I this ([], [], [])).1
  · exact (step_F (List.all_eq_true.1 h3 o ho) ([], [], [])).1
  · exact (step_W (List.all_eq_true.1 h2 _ (List.mem_map.2 ⟨o, ho, rfl⟩)) ([], [], [])).1
end Go.Proofs.YtmocooihkobdjaaDoor.Model
end
section
set_option linter.unusedVariables false
set_option linter.unusedSimpArgs false
namespace Go.Proofs.YtmocooihkobdjaaDoor.Model
open Go.RowKit Go.Proofs.YtmocooihkobdjaaDoor.I Go.Proofs.YtmocooihkobdjaaDoorW.PrintWords Go.Proofs.YtmocooihkobdjaaDoorW.PrintLast Go.Proofs.YtmocooihkobdjaaDoor.Ver
def idx (a : Int) : Int := Int.tmod (wrap64 ((Int.tmod a 5) + 5)) 5
def insM (a : Int) : B := if idx a = 0 then [35, 32, 105, 110, 115, 116, 97, 108, 108, 32, 97, 97, 10] else if idx a = 1 then [32, 9] else if idx a = 2 then [10, 32, 9, 10] else if idx a = 3 then [9, 35, 10] else []
def spM (k : Nat) : B := if Int.tmod (k : Int) 2 = 1 then [32, 9, 32] else []
def idleT (at_ : List Int) : Bool → Nat → B → B
  | _, _, [] => []
  | nl, k, c :: r =>
    if nl = true ∧ k < at_.length then insM (rd at_ (k : Int)) ++ ((if c = 10 then spM (k + 1) else []) ++ c :: idleT at_ (c == 10) (k + 1) r)
    else (if c = 10 then spM k else []) ++ c :: idleT at_ (c == 10) k r
theorem idle_in (at_ : List Int) : ∀ (k : Nat) (ln rest : B), (∀ c ∈ ln, c ≠ 10) → idleT at_ false k (ln ++ 10 :: rest) = ln ++ (spM k ++ 10 :: idleT at_ true k rest)
  | k, [], rest, _ => by
    rw [List.nil_append, idleT, if_neg (by simp), if_pos rfl]
    rfl
  | k, c :: ln, rest, h => by
    have hc := h c (List.mem_cons_self ..)
    have e : (c == 10) = false := beq_eq_false_iff_ne.2 hc
    rw [List.cons_append, idleT, if_neg (by simp), if_neg hc, e, idle_in at_ k ln rest (fun x hx => h x (List.mem_cons_of_mem _ hx))]
    rfl
theorem idle_line (at_ : List Int) (k : Nat) (c : UInt8) (ln rest : B) (h : ∀ x ∈ c :: ln, x ≠ 10) : ∃ (pre : B) (k' : Nat), (pre = [] ∨ ∃ a, pre = insM a) ∧ idleT at_ true k ((c :: ln) ++ 10 :: rest) = pre ++ ((c :: ln) ++ (spM k' ++ 10 :: idleT at_ true k' rest)) := by
  have hc := h c (List.mem_cons_self ..)
  have e : (c == 10) = false := beq_eq_false_iff_ne.2 hc
  have hi := fun k => idle_in at_ k ln rest (fun x hx => h x (List.mem_cons_of_mem _ hx))
  by_cases hk : k < at_.length
  · refine ⟨insM (rd at_ (k : Int)), k + 1, .inr ⟨_, rfl⟩, ?_⟩
    rw [List.cons_append, idleT, if_pos ⟨rfl, hk⟩, if_neg hc, e, hi]
    rfl
  · refine ⟨[], k, .inl rfl, ?_⟩
    rw [List.cons_append, idleT, if_neg (fun q => hk q.2), if_neg hc, e, hi]
    rfl
theorem spM_blk (k : Nat) : ∀ c ∈ spM k, blk c = true := by
  unfold spM
  split <;> decide
theorem spM_no10 (k : Nat) : ∀ c ∈ spM k, c ≠ 10 := by
  unfold spM
  split <;> decide
theorem lines_pre {pre : B} (hp : pre = [] ∨ ∃ a, pre = insM a) {t : B} (ht : Fine t) (sp : B) (hs : ∀ c ∈ sp, blk c = true) (hs2 : ∀ c ∈ sp, c ≠ 10) (X : B) (j : Nat) (q : Q) :
    ∃ j', linesM (splitL (pre ++ (t ++ (sp ++ 10 :: X)))) j q = if (stepM t q).2 = 0 then linesM (splitL X) j' (stepM t q).1 else ([], [], [], (stepM t q).2, (j' : Int)) := by
  obtain ⟨h1, h2, h3⟩ := ht
  have hb : ∀ (b : B), (∀ c ∈ b, blk c = true) → (∀ c ∈ b, c ≠ 10) → ∀ j, linesM (splitL (b ++ (t ++ (sp ++ 10 :: X)))) j q = if (stepM t q).2 = 0 then linesM (splitL X) (j + 1) (stepM t q).1 else ([], [], [], (stepM t q).2, ((j + 1 : Nat) : Int)) := by
    intro b hb1 hb2 j
    have e : b ++ (t ++ (sp ++ 10 :: X)) = (b ++ (t ++ sp)) ++ 10 :: X := by simp
    have hn : ∀ c ∈ b ++ (t ++ sp), c ≠ 10 := by
      intro c hc
      rw [List.mem_append, List.mem_append] at hc
      rcases hc with hc | hc | hc
      · exact hb2 c hc
      · exact h3 c hc
      · exact hs2 c hc
    have et : trimM (b ++ (t ++ sp)) = t := by rw [trim_ahead b hb1, trim_behind sp hs, h1]
    rw [e, split_line _ _ hn, linesM, et, h2, if_neg (by decide)]
  have skip : ∀ (l : B), (∀ c ∈ l, c ≠ 10) → idleM (trimM l) = true → ∀ (Y : B) j, linesM (splitL (l ++ 10 :: Y)) j q = linesM (splitL Y) (j + 1) q := by
    intro l hl hi Y j
    rw [split_line _ _ hl, linesM, if_pos hi]
  have h0 := hb [] (by simp) (by simp)
  rcases hp with rfl | ⟨a, rfl⟩
  · exact ⟨_, h0 j⟩
  · unfold insM
    split
    · have e : ([35, 32, 105, 110, 115, 116, 97, 108, 108, 32, 97, 97, 10] : B) ++ (t ++ (sp ++ 10 :: X)) = [35, 32, 105, 110, 115, 116, 97, 108, 108, 32, 97, 97] ++ 10 :: ([] ++ (t ++ (sp ++ 10 :: X))) := by simp
      rw [e, skip _ (by decide) (by decide)]
      exact ⟨_, h0 (j + 1)⟩
    split
    · exact ⟨_, hb [32, 9] (by decide) (by decide) j⟩
    split
    · have e : ([10, 32, 9, 10] : B) ++ (t ++ (sp ++ 10 :: X)) = [] ++ 10 :: ([32, 9] ++ 10 :: ([] ++ (t ++ (sp ++ 10 :: X)))) := by simp
      rw [e, skip [] (by simp) (by decide), skip [32, 9] (by decide) (by decide)]
      exact ⟨_, h0 (j + 1 + 1)⟩
    split
    · have e : ([9, 35, 10] : B) ++ (t ++ (sp ++ 10 :: X)) = [9, 35] ++ 10 :: ([] ++ (t ++ (sp ++ 10 :: X))) := by simp
      rw [e, skip _ (by decide) (by decide)]
      exact ⟨_, h0 (j + 1)⟩
    · exact ⟨_, h0 j⟩
theorem full10_cons (l : B) (ls : List B) : full10 (l :: ls) = l ++ 10 :: full10 ls := by unfold full10; rw [List.map_cons, List.flatten_cons]; simp
theorem idle_lines (at_ : List Int) : ∀ (ls : List B), (∀ l ∈ ls, Fine l) → ∀ (k i j : Nat) (q : Q), (linesM ls i q).2.2.2.1 = 0 → linesM (splitL (idleT at_ true k (full10 ls))) j q = linesM ls i q
  | [], _, k, i, j, q, _ => by
    have e : idleM (trimM []) = true := rfl
    show linesM (splitL []) j q = _
    simp [splitL, linesM, e]
  | l :: ls, h, k, i, j, q, h0 => by
    have hl := h l (List.mem_cons_self ..)
    obtain ⟨f1, f2, f3⟩ := hl
    rw [linesM, f1, f2, if_neg (by decide)] at h0 ⊢
    cases l with
    | nil => cases f2
    | cons c l =>
      obtain ⟨pre, k', hp, e⟩ := idle_line at_ k c l (full10 ls) f3
      rw [full10_cons, e]
      obtain ⟨j', e2⟩ := lines_pre hp (t := c :: l) ⟨f1, f2, f3⟩ (spM k') (spM_blk k') (spM_no10 k') (idleT at_ true k' (full10 ls)) j q
      rw [e2]
      by_cases hs : (stepM (c :: l) q).2 = 0
      · rw [if_pos hs] at h0 ⊢
        rw [if_pos hs]
        exact idle_lines at_ ls (fun x hx => h x (List.mem_cons_of_mem _ hx)) k' (i + 1) j' _ h0
      · rw [if_neg hs] at h0
        exact absurd h0 hs
theorem req_lines {L : List (List S46)} {F : List S46} {W : List S48} (h : reqOk L F W = true) : linesM (lnsM L F W) 0 ([], [], []) = (L, F, W, 0, 0) := by
  unfold reqOk at h
  rw [Bool.and_eq_true, Bool.and_eq_true] at h
  obtain ⟨h1, h2, h3⟩ := h
  have e : lnsM L F W = L.map lnI ++ (F.map lnF ++ (W.map lnW ++ [])) := by simp [lnsM]
  rw [e, lines_I L _ 0 _ h1, lines_F F _ _ _ h3, lines_W W _ _ _ h2]
  simp [linesM]
theorem req_idle (at_ : List Int) {L : List (List S46)} {F : List S46} {W : List S48} (h : reqOk L F W = true) : reqM (idleT at_ true 0 (reqText L F W)) = (L, F, W, 0, 0) := by
  have e := req_lines h
  rw [text_lns h]
  unfold reqM
  rw [idle_lines at_ (lnsM L F W) (lns_no10 h) 0 0 0 ([], [], []) (by rw [e]), e]
theorem insM_len (a : Int) : (insM a).length ≤ 13 := by
  unfold insM
  split
  · decide
  split
  · decide
  split
  · decide
  split
  · decide
  · decide
theorem spM_len (k : Nat) : (spM k).length ≤ 3 := by
  unfold spM
  split <;> decide
theorem idle_len (at_ : List Int) : ∀ (nl : Bool) (k : Nat) (l : B), (idleT at_ nl k l).length ≤ 17 * l.length
  | _, _, [] => by simp [idleT]
  | nl, k, c :: r => by
    have h1 := idle_len at_ (c == 10) (k + 1) r
    have h2 := idle_len at_ (c == 10) k r
    have h3 := insM_len (rd at_ (k : Int))
    have h4 := spM_len k
    have h5 := spM_len (k + 1)
    rw [idleT]
    split
    · split
      · simp only [List.length_append, List.length_cons]; omega
      · simp only [List.length_append, List.length_cons, List.length_nil]; omega
    · split
      · simp only [List.length_append, List.length_cons]; omega
      · simp only [List.length_append, List.length_cons, List.length_nil]; omega
end Go.Proofs.YtmocooihkobdjaaDoor.Model
end
section
set_option linter.unusedVariables false
set_option linter.unusedSimpArgs false
namespace Go.Proofs.YtmocooihkobdjaaDoor.Model
open Go.RowKit Go.Proofs.YtmocooihkobdjaaDoor.I Go.Proofs.YtmocooihkobdjaaDoorW.PrintWords Go.Proofs.YtmocooihkobdjaaDoorW.PrintLast Go.Proofs.YtmocooihkobdjaaDoor.Ver
def asN (a : B) : List Int := a.map fun b => (b.toNat : Int)
theorem asN_app (a b : B) : asN (a ++ b) = asN a ++ asN b := by unfold asN; rw [List.map_append]
theorem asN_len (a : B) : (asN a).length = a.length := by unfold asN; rw [List.length_map]
theorem asN_str (a : B) : strOfNums (asN a) = ofL a := by
  unfold strOfNums asN ofL
  rw [List.map_map]
  congr 2
  conv => rhs; rw [← List.map_id a]
  refine List.map_congr_left (fun c _ => ?_)
  simp
theorem asN_bytes (a l : B) : asN a ++ bytesOf ⟨l.toArray⟩ = asN (a ++ l) := by
  rw [asN_app]
  congr 1
theorem asN_one (a : B) (c : UInt8) : asN a ++ [(c.toNat : Int)] = asN (a ++ [c]) := by rw [asN_app]; rfl
end Go.Proofs.YtmocooihkobdjaaDoor.Model
end
section
set_option linter.unusedVariables false
set_option linter.unusedSimpArgs false
namespace Go.Proofs.YtmocooihkobdjaaDoor.Model
open Go.RowKit Go.Proofs.YtmocooihkobdjaaDoor.I Go.Proofs.YtmocooihkobdjaaDoorW.PrintWords Go.Proofs.YtmocooihkobdjaaDoorW.PrintLast Go.Proofs.YtmocooihkobdjaaDoor.Ver
theorem copyrels_ev (l : List S46) (h : l.length ≤ 100000000) : Ev (fun k => depotref00_CopyRels.f k l) l := by
  have key : ∀ (d i : Nat), i + d = l.length → ∀ acc : List S46, acc.length = i → Ev (fun k => depotref00_CopyRels.l0 k l acc (i : Int)) (acc ++ l.drop i) := by
    intro d
    induction d with
    | zero =>
      intro i hi acc ha
      rw [List.drop_of_length_le (by omega), List.append_nil]
      refine Ev.step (f := fun _ => some acc) (fun k => ?_) (Ev.now _)
      simp only [depotref00_CopyRels.l0]
      rw [if_neg (by omega)]
    | succ d ih =>
      intro i hi acc ha
      have hi' : i < l.length := by omega
      have ew : wrap64 ((i : Int) + 1) = ((i + 1 : Nat) : Int) := by rw [wrap_id (by omega) (by omega)]; omega
      have hn := ih (i + 1) (by omega) (acc ++ [l[i]]) (by simp [ha])
      rw [drop_at hi', show acc ++ l[i] :: l.drop (i + 1) = (acc ++ [l[i]]) ++ l.drop (i + 1) by simp]
      refine Ev.step (f := _) (fun k => ?_) hn
      simp only [depotref00_CopyRels.l0, rt_at hi', ew]
      rw [if_pos (by omega), if_pos (by omega), if_pos (by omega)]
  have := key l.length 0 (by omega) [] rfl
  simpa [depotref00_CopyRels.f] using this
theorem copylists_ev (L : List (List S46)) (h : L.length ≤ 100000000) (hm : ∀ m ∈ L, m.length ≤ 100000000) : Ev (fun k => depotref00_CopyLists.f k L) L := by
  have key : ∀ (d i : Nat), i + d = L.length → ∀ acc : List (List S46), acc.length = i → Ev (fun k => depotref00_CopyLists.l0 k L acc (i : Int)) (acc ++ L.drop i) := by
    intro d
    induction d with
    | zero =>
      intro i hi acc ha
      rw [List.drop_of_length_le (by omega), List.append_nil]
      refine Ev.step (f := fun _ => some acc) (fun k => ?_) (Ev.now _)
      simp only [depotref00_CopyLists.l0]
      rw [if_neg (by omega)]
    | succ d ih =>
      intro i hi acc ha
      have hi' : i < L.length := by omega
      have ew : wrap64 ((i : Int) + 1) = ((i + 1 : Nat) : Int) := by rw [wrap_id (by omega) (by omega)]; omega
      have hn := ih (i + 1) (by omega) (acc ++ [L[i]]) (by simp [ha])
      rw [drop_at hi', show acc ++ L[i] :: L.drop (i + 1) = (acc ++ [L[i]]) ++ L.drop (i + 1) by simp]
      refine Ev.step (f := fun k => (depotref00_CopyRels.f k L[i]).bind fun t => if acc.length < 5864062014805 then depotref00_CopyLists.l0 k L (acc ++ [t]) ((i + 1 : Nat) : Int) else none) (fun k => ?_) (Ev.bind (copyrels_ev L[i] (hm _ (List.getElem_mem hi'))) ?_)
      · simp only [depotref00_CopyLists.l0, rd_at hi', ew]
        rw [if_pos (by omega), if_pos (by omega)]
      · simp only [if_pos (show acc.length < 5864062014805 by omega)]
        exact hn
  have := key L.length 0 (by omega) [] rfl
  simpa [depotref00_CopyLists.f] using this
theorem copyreq_ev (L : List (List S46)) (F : List S46) (W : List S48) (h : reqW L F W ≤ 8388608) : Ev (fun k => depotref00_CopyRequest.f k L F W) (L, F, W) := by
  obtain ⟨h1, h2, h3, h4, h5⟩ := req_parts h
  have hC := copylists_ev L (by omega) (fun m hm => by have := row_len hm; omega)
  have hR := copyrels_ev F (by omega)
  have hW : W.length ≤ 100000000 := by omega
  clear h h1 h2 h3 h4 h5
  have key : ∀ (d i : Nat), i + d = W.length → ∀ acc : List S48, acc = W.take i → Ev (fun k => depotref00_CopyRequest.l0 k acc (i : Int) L F W) (L, F, W) := by
    intro d
    induction d with
    | zero =>
      intro i hi acc ha
      obtain rfl : i = W.length := by omega
      rw [List.take_length] at ha
      subst ha
      refine Ev.step (f := fun k => (depotref00_CopyLists.f k L).bind fun t => (depotref00_CopyRels.f k F).bind fun u => some (t, u, acc)) (fun k => ?_) (Ev.bind hC (Ev.bind hR (Ev.now _)))
      simp only [depotref00_CopyRequest.l0]
      rw [if_neg (by omega)]
    | succ d ih =>
      intro i hi acc ha
      have hi' : i < W.length := by omega
      have ew : wrap64 ((i : Int) + 1) = ((i + 1 : Nat) : Int) := by rw [wrap_id (by omega) (by omega)]; omega
      have hlen : acc.length = i := by rw [ha, List.length_take]; omega
      have hn := ih (i + 1) (by omega) (acc ++ [W[i]]) (by rw [List.take_succ_eq_append_getElem hi', ha])
      refine Ev.step (f := _) (fun k => ?_) hn
      simp only [depotref00_CopyRequest.l0, wt_at hi', ew]
      rw [if_pos (by omega), if_pos (by omega), if_pos (by omega)]
  unfold depotref00_CopyRequest.f
  exact key W.length 0 (by omega) [] rfl
end Go.Proofs.YtmocooihkobdjaaDoor.Model
end
section
set_option linter.unusedVariables false
set_option linter.unusedSimpArgs false
namespace Go.Proofs.YtmocooihkobdjaaDoor.Model
open Go.RowKit Go.Proofs.YtmocooihkobdjaaDoor.I Go.Proofs.YtmocooihkobdjaaDoorW.PrintWords Go.Proofs.YtmocooihkobdjaaDoorW.PrintLast Go.Proofs.YtmocooihkobdjaaDoor.Ver
theorem samerels_self (l : List S46) (hl : l.length ≤ 140737488351232) : Ev (fun k => depotref00_SameRels.f k l l) true := by
  have key : ∀ (d i : Nat), i + d = l.length → Ev (fun k => depotref00_SameRels.l0 k l l (i : Int)) true := by
    intro d
    induction d with
    | zero =>
      intro i hi
      refine Ev.step (f := fun _ => some true) (fun k => ?_) (Ev.now _)
      simp only [depotref00_SameRels.l0]
      rw [if_neg (by omega)]
    | succ d ih =>
      intro i hi
      have ew : wrap64 ((i : Int) + 1) = ((i + 1 : Nat) : Int) := by rw [wrap_id (by omega) (by omega)]; omega
      refine Ev.step (f := fun k => depotref00_SameRels.l0 k l l ((i + 1 : Nat) : Int)) (fun k => ?_) (ih (i + 1) (by omega))
      simp only [depotref00_SameRels.l0, ew, if_pos (show (i : Int) < l.length by omega), if_pos (show (0 : Int) ≤ i by omega)]
      simp
  unfold depotref00_SameRels.f
  simp only [if_true]
  exact key l.length 0 (by omega)
theorem samelists_self (l : List (List S46)) (hl : l.length ≤ 140737488351232) (hin : ∀ m ∈ l, m.length ≤ 140737488351232) : Ev (fun k => depotref00_SameLists.f k l l) true := by
  have key : ∀ (d i : Nat), i + d = l.length → Ev (fun k => depotref00_SameLists.l0 k l l (i : Int)) true := by
    intro d
    induction d with
    | zero =>
      intro i hi
      refine Ev.step (f := fun _ => some true) (fun k => ?_) (Ev.now _)
      simp only [depotref00_SameLists.l0]
      rw [if_neg (by omega)]
    | succ d ih =>
      intro i hi
      have ew : wrap64 ((i : Int) + 1) = ((i + 1 : Nat) : Int) := by rw [wrap_id (by omega) (by omega)]; omega
      refine Ev.step (f := fun k => (depotref00_SameRels.f k (rd_L3 l (i : Int)) (rd_L3 l (i : Int))).bind fun t198 => (if t198 = true then (depotref00_SameLists.l0 k l l ((i + 1 : Nat) : Int)) else (some false))) (fun k => ?_) ?_
      · simp only [depotref00_SameLists.l0, ew, if_pos (show (i : Int) < l.length by omega), if_pos (show (0 : Int) ≤ i by omega)]
      · have hi' : i < l.length := by omega
        rw [rd_at hi']
        refine Ev.bind (samerels_self _ (hin _ (List.getElem_mem hi'))) ?_
        simp only [if_true]
        exact ih (i + 1) (by omega)
  unfold depotref00_SameLists.f
  simp only [if_true]
  exact key l.length 0 (by omega)
theorem samewishes_self (l : List S48) (hl : l.length ≤ 140737488351232) : Ev (fun k => depotref00_SameWishes.f k l l) true := by
  have key : ∀ (d i : Nat), i + d = l.length → Ev (fun k => depotref00_SameWishes.l0 k l l (i : Int)) true := by
    intro d
    induction d with
    | zero =>
      intro i hi
      refine Ev.step (f := fun _ => some true) (fun k => ?_) (Ev.now _)
      simp only [depotref00_SameWishes.l0]
      rw [if_neg (by omega)]
    | succ d ih =>
      intro i hi
      have ew : wrap64 ((i : Int) + 1) = ((i + 1 : Nat) : Int) := by rw [wrap_id (by omega) (by omega)]; omega
      refine Ev.step (f := fun k => depotref00_SameWishes.l0 k l l ((i + 1 : Nat) : Int)) (fun k => ?_) (ih (i + 1) (by omega))
      simp only [depotref00_SameWishes.l0, ew, if_pos (show (i : Int) < l.length by omega), if_pos (show (0 : Int) ≤ i by omega)]
      simp
  unfold depotref00_SameWishes.f
  simp only [if_true]
  exact key l.length 0 (by omega)
theorem samereq_self (L : List (List S46)) (F : List S46) (W : List S48) (hL : L.length ≤ 100000000) (hin : ∀ m ∈ L, m.length ≤ 100000000) (hF : F.length ≤ 100000000) (hW : W.length ≤ 100000000) : Ev (fun k => depotref00_SameRequest.f k L F W L F W) true := by
  unfold depotref00_SameRequest.f
  refine Ev.bind (samelists_self L (by omega) (fun m hm => by have := hin m hm; omega)) ?_
  simp only [if_true]
  refine Ev.bind (samerels_self F (by omega)) ?_
  simp only [if_true]
  exact Ev.bind (samewishes_self W (by omega)) (Ev.now _)
end Go.Proofs.YtmocooihkobdjaaDoor.Model
end
section
set_option linter.unusedVariables false
set_option linter.unusedSimpArgs false
namespace Go.Proofs.YtmocooihkobdjaaDoor.Model
open Go.RowKit Go.Proofs.YtmocooihkobdjaaDoor.I Go.Proofs.YtmocooihkobdjaaDoorW.PrintWords Go.Proofs.YtmocooihkobdjaaDoorW.PrintLast Go.Proofs.YtmocooihkobdjaaDoor.Ver
theorem idle_byte (at1 : List Int) (hat : at1.length ≤ 1099511627776) (s : ByteArray) (hs : s.size ≤ 999999999) (L : List (List S46)) (F : List S46) (W : List S48) (i : Nat) (hi : i < s.size) (acc : B) (ha : acc.length ≤ 17 * i) (k : Nat) (hk : k ≤ at1.length) (nl : Bool)
    (v : Bool) (b : Bool) (hb : b = decide (nl = true ∧ k < at1.length))
    (hn : ∀ (acc' : B) (k' : Nat), k' = (if b = true then k + 1 else k) → acc' = acc ++ ((if b = true then insM (rd at1 (k : Int)) else []) ++ ((if s[i]'hi = 10 then spM k' else []) ++ [s[i]'hi])) → Ev (fun n => depotlaw24_RequestIdle.l0 n at1 s (asN acc') (k' : Int) ((i + 1 : Nat) : Int) L F W) v) :
    Ev (fun n => depotlaw24_RequestIdle.j1 n at1 s (asN acc) (k : Int) (i : Int) b L F W) v := by
  have ew : wrap64 ((i : Int) + 1) = ((i + 1 : Nat) : Int) := by rw [wrap_id (by omega) (by omega)]; omega
  have ek : wrap64 ((k : Int) + 1) = ((k + 1 : Nat) : Int) := by rw [wrap_id (by omega) (by omega)]; omega
  have hbt := bt_eq s i hi
  have hc10 : (bt s (i : Int) = 10) ↔ s[i]'hi = 10 := by
    rw [hbt]
    exact ⟨fun q => toNat_inj.1 (show ((s[i]'hi).toNat : Int) = ((10 : UInt8).toNat : Int) from q), fun q => by rw [q]; rfl⟩
  have i0 : (0 : Int) ≤ (i : Int) := by omega
  have i1 : (i : Int) < (s.size : Int) := by omega
  have tail : ∀ (acc2 : B) (k' : Nat), acc2.length ≤ 17 * i + 13 → k' = (if b = true then k + 1 else k) → acc2 = acc ++ (if b = true then insM (rd at1 (k : Int)) else []) →
      Ev (fun n => (if (bt s (i : Int)) = 10 then (if (Int.tmod (k' : Int) 2) = 1 then (if (asN acc2).length + 3 < 140737488355328 then ((some (asN acc2 ++ bytesOf (⟨#[32, 9, 32]⟩ : ByteArray) : List Int)).bind fun y => (if y.length < 140737488355328 then (depotlaw24_RequestIdle.l0 n at1 s (y ++ [bt s (i : Int)]) (k' : Int) ((i + 1 : Nat) : Int) L F W) else (none))) else (none)) else (if (asN acc2).length < 140737488355328 then (depotlaw24_RequestIdle.l0 n at1 s (asN acc2 ++ [bt s (i : Int)]) (k' : Int) ((i + 1 : Nat) : Int) L F W) else (none))) else (if (asN acc2).length < 140737488355328 then (depotlaw24_RequestIdle.l0 n at1 s (asN acc2 ++ [bt s (i : Int)]) (k' : Int) ((i + 1 : Nat) : Int) L F W) else (none)))) v := by
    intro acc2 k' hl hk' he
    have eb : asN acc2 ++ bytesOf (⟨#[32, 9, 32]⟩ : ByteArray) = asN (acc2 ++ [32, 9, 32]) := asN_bytes acc2 [32, 9, 32]
    simp only [hc10]
    simp only [eb, Option.bind_some, asN_len, hbt, asN_one, List.length_append, List.length_cons, List.length_nil]
    by_cases h10 : s[i]'hi = 10
    · simp only [if_pos h10]
      by_cases hm : Int.tmod (k' : Int) 2 = 1
      · simp only [if_pos hm, if_pos (show acc2.length + 3 < 140737488355328 by omega), if_pos (show acc2.length + (0 + 1 + 1 + 1) < 140737488355328 by omega)]
        refine hn _ k' hk' ?_
        rw [if_pos h10, he]
        unfold spM
        rw [if_pos hm]
        simp only [List.append_assoc]
      · simp only [if_neg hm, if_pos (show acc2.length < 140737488355328 by omega)]
        refine hn _ k' hk' ?_
        rw [if_pos h10, he]
        unfold spM
        rw [if_neg hm]
        simp only [List.append_assoc, List.nil_append]
    · simp only [if_neg h10, if_pos (show acc2.length < 140737488355328 by omega)]
      refine hn _ k' hk' ?_
      rw [if_neg h10, he]
      simp only [List.append_assoc, List.nil_append]
  cases b with
  | false =>
    have t0 := tail acc k (by omega) (by simp) (by simp)
    refine Ev.step (f := _) (fun n => ?_) t0
    simp only [depotlaw24_RequestIdle.j1, ew, Bool.false_eq_true, if_false, if_pos i0, if_pos i1]
  | true =>
    have hkl : k < at1.length := (of_decide_eq_true hb.symm).2
    have k0 : (0 : Int) ≤ (k : Int) := by omega
    have k1 : (k : Int) < (at1.length : Int) := by omega
    have fold : Int.tmod (wrap64 ((Int.tmod (rd at1 (k : Int)) 5) + 5)) 5 = idx (rd at1 (k : Int)) := rfl
    have tl : ∀ l : B, insM (rd at1 (k : Int)) = l → l.length ≤ 13 → _ := fun l hl h13 => tail (acc ++ l) (k + 1) (by rw [List.length_append]; omega) (by simp) (by simp [hl])
    have b0 : asN acc ++ bytesOf (⟨#[35, 32, 105, 110, 115, 116, 97, 108, 108, 32, 97, 97, 10]⟩ : ByteArray) = asN (acc ++ [35, 32, 105, 110, 115, 116, 97, 108, 108, 32, 97, 97, 10]) := asN_bytes acc [35, 32, 105, 110, 115, 116, 97, 108, 108, 32, 97, 97, 10]
    have b1 : asN acc ++ bytesOf (⟨#[32, 9]⟩ : ByteArray) = asN (acc ++ [32, 9]) := asN_bytes acc [32, 9]
    have b2 : asN acc ++ bytesOf (⟨#[10, 32, 9, 10]⟩ : ByteArray) = asN (acc ++ [10, 32, 9, 10]) := asN_bytes acc [10, 32, 9, 10]
    have b3 : asN acc ++ bytesOf (⟨#[9, 35, 10]⟩ : ByteArray) = asN (acc ++ [9, 35, 10]) := asN_bytes acc [9, 35, 10]
    by_cases m0 : idx (rd at1 (k : Int)) = 0
    · refine Ev.step (f := _) (fun n => ?_) (tl _ (by unfold insM; rw [if_pos m0]) (by decide))
      simp only [depotlaw24_RequestIdle.j1, ew, ek, if_true, if_pos i0, if_pos i1, if_pos k0, if_pos k1, fold, if_pos m0, b0, Option.bind_some, if_pos (show (asN acc).length + 13 < 140737488355328 by rw [asN_len]; omega)]
    by_cases m1 : idx (rd at1 (k : Int)) = 1
    · refine Ev.step (f := _) (fun n => ?_) (tl _ (by unfold insM; rw [if_neg m0, if_pos m1]) (by decide))
      simp only [depotlaw24_RequestIdle.j1, ew, ek, if_true, if_pos i0, if_pos i1, if_pos k0, if_pos k1, fold, if_neg m0, if_pos m1, b1, Option.bind_some, if_pos (show (asN acc).length + 2 < 140737488355328 by rw [asN_len]; omega)]
    by_cases m2 : idx (rd at1 (k : Int)) = 2
    · refine Ev.step (f := _) (fun n => ?_) (tl _ (by unfold insM; rw [if_neg m0, if_neg m1, if_pos m2]) (by decide))
      simp only [depotlaw24_RequestIdle.j1, ew, ek, if_true, if_pos i0, if_pos i1, if_pos k0, if_pos k1, fold, if_neg m0, if_neg m1, if_pos m2, b2, Option.bind_some, if_pos (show (asN acc).length + 4 < 140737488355328 by rw [asN_len]; omega)]
    by_cases m3 : idx (rd at1 (k : Int)) = 3
    · refine Ev.step (f := _) (fun n => ?_) (tl _ (by unfold insM; rw [if_neg m0, if_neg m1, if_neg m2, if_pos m3]) (by decide))
      simp only [depotlaw24_RequestIdle.j1, ew, ek, if_true, if_pos i0, if_pos i1, if_pos k0, if_pos k1, fold, if_neg m0, if_neg m1, if_neg m2, if_pos m3, b3, Option.bind_some, if_pos (show (asN acc).length + 3 < 140737488355328 by rw [asN_len]; omega)]
    · have t4 := tail acc (k + 1) (by omega) (by simp) (by unfold insM; simp [m0, m1, m2, m3])
      refine Ev.step (f := _) (fun n => ?_) t4
      simp only [depotlaw24_RequestIdle.j1, ew, ek, if_true, if_pos i0, if_pos i1, if_pos k0, if_pos k1, fold, if_neg m0, if_neg m1, if_neg m2, if_neg m3]
def nlAt (s : ByteArray) (i : Nat) : Bool := if i = 0 then true else bt s ((i - 1 : Nat) : Int) == 10
theorem idle_loop (at1 : List Int) (hat : at1.length ≤ 1099511627776) (s : ByteArray) (hs : s.size ≤ 58823529) (L : List (List S46)) (F : List S46) (W : List S48) (v : Bool) : ∀ (d i : Nat), i + d = s.size → ∀ (acc : B), acc.length ≤ 17 * i → ∀ k : Nat, k ≤ at1.length →
    Ev (fun n => (request_Read.f n (ofL (acc ++ idleT at1 (nlAt s i) k (Model.at_ s i)))).bind fun bt262 => (if bt262.2.2.2.1 = 0 then (if bt262.2.2.2.2 = 0 then ((depotref00_SameRequest.f n bt262.1 bt262.2.1 bt262.2.2.1 L F W).bind fun t274 => (if t274 = true then ((depotlaw24_awake.f n).bind fun t275 => (some t275)) else (some false))) else (some false)) else (some false))) v →
    Ev (fun n => depotlaw24_RequestIdle.l0 n at1 s (asN acc) (k : Int) (i : Int) L F W) v := by
  intro d
  induction d with
  | zero =>
    intro i hi acc ha k hk h
    obtain rfl : i = s.size := by omega
    rw [at_end, idleT, List.append_nil] at h
    refine Ev.step (f := _) (fun n => ?_) h
    simp only [depotlaw24_RequestIdle.l0, asN_str]
    rw [if_neg (by omega)]
  | succ d ih =>
    intro i hi acc ha k hk h
    have hi' : i < s.size := by omega
    have hbt := bt_eq s i hi'
    have hnl : nlAt s (i + 1) = (s[i]'hi' == 10) := by
      unfold nlAt
      rw [if_neg (by omega), show i + 1 - 1 = i by omega, hbt]
      rw [Bool.eq_iff_iff, beq_iff_eq, beq_iff_eq]
      exact ⟨fun q => toNat_inj.1 (show ((s[i]'hi').toNat : Int) = ((10 : UInt8).toNat : Int) from q), fun q => by rw [q]; rfl⟩
    rw [at_lt hi', idleT] at h
    have hj : Ev (fun n => depotlaw24_RequestIdle.j1 n at1 s (asN acc) (k : Int) (i : Int) (decide (nlAt s i = true ∧ k < at1.length)) L F W) v := by
      refine idle_byte at1 hat s (by omega) L F W i hi' acc ha k hk (nlAt s i) v _ rfl (fun acc' k' hk' ha' => ?_)
      have l1 := insM_len (rd at1 (k : Int))
      have l2 := spM_len k'
      refine ih (i + 1) (by omega) acc' ?_ k' ?_ ?_
      · rw [ha']
        simp only [List.length_append, List.length_cons, List.length_nil]
        split <;> split <;> (try simp only [List.length_nil]) <;> omega
      · rw [hk']
        split
        · rename_i q
          have := (of_decide_eq_true q).2
          omega
        · exact hk
      · rw [ha', hnl]
        by_cases hc : nlAt s i = true ∧ k < at1.length
        · have hd : decide (nlAt s i = true ∧ k < at1.length) = true := decide_eq_true hc
          rw [hd, if_pos rfl] at hk'
          subst hk'
          rw [if_pos hc] at h
          simp only [hd, if_true, List.append_assoc, List.singleton_append] at h ⊢
          exact h
        · have hd : decide (nlAt s i = true ∧ k < at1.length) = false := decide_eq_false hc
          rw [hd, if_neg (by decide)] at hk'
          subst hk'
          rw [if_neg hc] at h
          simp only [hd, Bool.false_eq_true, if_false, List.append_assoc, List.singleton_append, List.nil_append] at h ⊢
          exact h
    have ew1 : i ≠ 0 → wrap64 ((i : Int) - 1) = ((i - 1 : Nat) : Int) := fun h => by rw [wrap_id (by omega) (by omega)]; omega
    refine Ev.step (f := _) (fun n => ?_) hj
    simp only [depotlaw24_RequestIdle.l0, if_pos (show (i : Int) < (s.size : Int) by omega)]
    have hki : decide ((k : Int) < (at1.length : Int)) = decide (k < at1.length) := by simp
    by_cases h0 : i = 0
    · subst h0
      have e : nlAt s 0 = true := rfl
      simp only [Int.natCast_zero, if_true, hki, e, true_and]
    · rw [if_neg (show ¬ (i : Int) = 0 by omega), ew1 h0, if_pos (by omega), if_pos (by omega)]
      have e : nlAt s i = (bt s ((i - 1 : Nat) : Int) == 10) := by unfold nlAt; rw [if_neg h0]
      by_cases hb : bt s ((i - 1 : Nat) : Int) = 10
      · rw [if_pos hb, hki, e, hb]
        simp
      · rw [if_neg hb, e, beq_eq_false_iff_ne.2 hb]
        simp
theorem req_len3 {L : List (List S46)} {F : List S46} {W : List S48} (h : reqW L F W ≤ 8388608) : L.length ≤ 100000000 ∧ (∀ m ∈ L, m.length ≤ 100000000) ∧ F.length ≤ 100000000 ∧ W.length ≤ 100000000 := by
  obtain ⟨h1, h2, h3, h4, h5⟩ := req_parts h
  have hm : L.flatten.length ≤ 100000000 := by
    have a := flat_weigh L
    have b := row_length L.flatten
    omega
  exact ⟨by omega, fun m hm2 => by have := row_len hm2; omega, by omega, by omega⟩
theorem text_small {L : List (List S46)} {F : List S46} {W : List S48} (h : reqW L F W ≤ 1048576) : (reqText L F W).length ≤ 58823529 := by
  obtain ⟨h1, h2, h3, _⟩ := req_parts h
  have a := insS_len L
  have b := forbS_len F
  have c := wisS_len W
  have d : (L.map rowW).sum + (F.map relW).sum + ((wrels W).map relW).sum ≤ 1048576 := by
    have e1 : rowsW L = (L.map rowW).sum + 1 := rfl
    have e2 : rowW F = (F.map relW).sum + 1 := rfl
    have e3 : rowW (wrels W) = ((wrels W).map relW).sum + 1 := rfl
    unfold reqW at h
    omega
  unfold reqText
  simp only [List.length_append, List.length_nil]
  omega
theorem requestIdle_ev (L : List (List S46)) (F : List S46) (W : List S48) (at1 : List Int) (h : reqW L F W ≤ 1048576) (ha : at1.length ≤ 1048576) : Ev (fun k => depotlaw24_RequestIdle.f k L F W at1) true := by
  have h' : reqW L F W ≤ 8388608 := by omega
  have hw := reqwrite_ev L F W h'
  have hc := copyreq_ev L F W h'
  have ht := text_small h
  obtain ⟨b1, b2, b3, b4⟩ := req_len3 h'
  clear h h'
  unfold depotlaw24_RequestIdle.f
  refine Ev.bind hc ?_
  cases ho : reqOk L F W with
  | false =>
    rw [ho] at hw
    simp only [Bool.false_eq_true, if_false] at hw
    refine Ev.bind hw ?_
    simp only [show ¬ (1 : Int) = 0 by decide, if_false]
    exact Ev.bind awake_ev (Ev.now _)
  | true =>
    rw [ho] at hw
    simp only [if_true] at hw
    refine Ev.bind hw ?_
    simp only [if_true]
    have hz : (ofL (reqText L F W)).size = (reqText L F W).length := ofL_size _
    refine idle_loop at1 (by omega) (ofL (reqText L F W)) (by omega) L F W true (reqText L F W).length 0 (by omega) [] (by simp) 0 (Nat.zero_le _) ?_
    rw [List.nil_append, at_zero, toL_ofL]
    have e : nlAt (ofL (reqText L F W)) 0 = true := rfl
    have hil := idle_len at1 true 0 (reqText L F W)
    have hr := Req_ev (ofL (idleT at1 true 0 (reqText L F W))) (by rw [ofL_size]; omega)
    rw [toL_ofL, req_idle at1 ho] at hr
    rw [e]
    refine Ev.bind hr ?_
    simp only [if_true]
    refine Ev.bind (samereq_self L F W b1 b2 b3 b4) ?_
    simp only [if_true]
    exact Ev.bind awake_ev (Ev.now _)
end Go.Proofs.YtmocooihkobdjaaDoor.Model
end
section
namespace Go.Proofs.YtmocooihkobdjaaDoor.Open
open Go Go.RowKit Go.Deep Go.Proofs.YtmocooihkobdjaaDoorW.PrintWords
def Opens {H α : Type} (enc : TypeId × Value → H) (P : Program) (W : World) (t : TypeId) (d : Kd α) (Q : α → DataW H → Prop) : Prop :=
  ∀ fuel cs x, DataW.trod enc P W 0 (fun _ => true) true fuel t cs = some x → ∃ y, d.K W y cs ∧ Q y x.1
theorem list_of {α : Type} {p : Nat → α → Prop} : ∀ n, (∀ i, i < n → ∃ y, p i y) → ∃ l : List α, l.length = n ∧ ∀ i y, l[i]? = some y → p i y := by
  intro n
  induction n with
  | zero => intro _; exact ⟨[], rfl, fun i y h => by simp at h⟩
  | succ n ih =>
    intro h
    obtain ⟨l, h1, h2⟩ := ih (fun i hi => h i (by omega))
    obtain ⟨y, hy⟩ := h n (by omega)
    refine ⟨l ++ [y], by simp [h1], fun i z hz => ?_⟩
    by_cases hi : i < l.length
    · rw [List.getElem?_append_left hi] at hz
      exact h2 i z hz
    · rw [List.getElem?_append_right (by omega)] at hz
      by_cases e : i - l.length = 0
      · rw [e] at hz
        obtain rfl : y = z := by simpa using hz
        obtain rfl : i = n := by omega
        exact hy
      · obtain ⟨m, hm⟩ : ∃ m, i - l.length = m + 1 := ⟨i - l.length - 1, by omega⟩
        rw [hm] at hz
        simp at hz
def SliceQ {H α : Type} (Q : α → DataW H → Prop) (l : List α) (x : DataW H) : Prop :=
  (x = .nil ∧ l = []) ∨ ∃ elems spare, x = .slice elems spare ∧ elems.length = l.length ∧ ∀ (i : Nat) (a : α), l[i]? = some a → ∃ b, elems[i]? = some b ∧ Q a b
section
variable {H α : Type} {enc : TypeId × Value → H} {P : Program} {W : World} {t e : TypeId} {d : Kd α} {Q : α → DataW H → Prop}
theorem slice_cells (ht : P.underlying t = some (.slice e)) (hc : P.cellsOf e = d.sz) (ho : Opens enc P W e d Q) {fuel : Nat} {cs : List Value} {x : DataW H × List MemPlace}
    (h : DataW.trod enc P W 0 (fun _ => true) true fuel t cs = some x) : ∃ (l : List α) (A : Option Addr) (c : Nat), cs = [.slice A l.length c] ∧ l.length ≤ c ∧ d.C W A l.length l ∧ SliceQ Q l x.1 := by
  rcases DataW.trod_slice ht h with ⟨rfl, rfl⟩ | ⟨a, len, cap, elems, rest, n, _, rfl, rfl, _, hl, hm, hlen, hel, _, _⟩
  · exact ⟨[], none, 0, rfl, Nat.le_refl _, ⟨rfl, by simp, fun h => by simp at h⟩, .inl ⟨rfl, rfl⟩⟩
  · have each : ∀ i, i < len → ∃ y, ∃ cs', W.cells? 0 (a.add (i * P.cellsOf e)) (P.cellsOf e) = some cs' ∧ d.K W y cs' ∧ ∃ b, (elems.map (·.1))[i]? = some b ∧ Q y b := by
      intro i hi
      have h1 := hel i hi
      rw [List.getElem?_eq_getElem (by omega)] at h1
      obtain ⟨cs', h2, h3⟩ := Option.bind_eq_some_iff.1 h1
      obtain ⟨y, h4, h5⟩ := ho _ _ _ h3
      exact ⟨y, cs', h2, h4, _, by rw [List.getElem?_map, List.getElem?_eq_getElem (by omega)]; rfl, h5⟩
    obtain ⟨l, l1, l2⟩ := list_of len each
    have hmax : cap ≤ 9223372036854775807 := by unfold maxLen at hm; omega
    subst l1
    refine ⟨l, some a, cap, rfl, hl, ⟨rfl, by omega, fun _ => ⟨a, rfl, fun j p hj => ?_⟩⟩, .inr ⟨_, _, rfl, by rw [List.length_map, hlen], fun i y hy => ?_⟩⟩
    · obtain ⟨cs', c1, c2, _⟩ := l2 j p hj
      obtain ⟨_, c3, c4⟩ := World.cells?_some c1
      refine ⟨cs', by rw [c3, hc], c2, fun i u hu => ?_⟩
      have hi : i < P.cellsOf e := by
        rw [← c3]
        exact (List.getElem?_eq_some_iff.1 hu).1
      have := c4 i hi
      rw [Deep.add_add, hu] at this
      rw [← hc]
      exact this
    · obtain ⟨_, _, _, b, b1, b2⟩ := l2 i y hy
      exact ⟨b, b1, b2⟩
theorem opens_slice (ht : P.underlying t = some (.slice e)) (hc : P.cellsOf e = d.sz) (ho : Opens enc P W e d Q) : Opens enc P W t (Kd.slice e d) (SliceQ Q) := by
  intro fuel cs x h
  obtain ⟨l, A, c, h1, h2, h3, h4⟩ := slice_cells ht hc ho h
  exact ⟨l, ⟨A, c, h1, h2, h3⟩, h4⟩
theorem slice_sum {bulk : DataW H → Nat} {all : List (DataW H) → Nat} (h0 : bulk .nil = 1) (h1 : ∀ e s, bulk (.slice e s) = all e + all s + 1) (h3 : ∀ d r, all (d :: r) = bulk d + all r)
    {m : α → Nat} (hm : ∀ a b, Q a b → m a ≤ bulk b) {l : List α} {x : DataW H} (h : SliceQ Q l x) : (l.map m).sum + 1 ≤ bulk x := by
  have key : ∀ (l : List α) (elems : List (DataW H)), elems.length = l.length → (∀ (i : Nat) (a : α), l[i]? = some a → ∃ b, elems[i]? = some b ∧ Q a b) → (l.map m).sum ≤ all elems := by
    intro l
    induction l with
    | nil => intro elems _ _; simp
    | cons a l ih =>
      intro elems hl hq
      cases elems with
      | nil => simp at hl
      | cons b elems =>
        rw [h3, List.map_cons, List.sum_cons]
        obtain ⟨b', hb', hab⟩ := hq 0 a rfl
        obtain rfl : b = b' := by simpa using hb'
        have := hm _ _ hab
        have := ih elems (by simpa using hl) (fun i a' h' => hq (i + 1) a' h')
        omega
  rcases h with ⟨rfl, rfl⟩ | ⟨elems, spare, rfl, hl, hq⟩
  · rw [h0]; simp
  · have := key l elems hl hq
    rw [h1]
    omega
end
end Go.Proofs.YtmocooihkobdjaaDoor.Open
end
section
namespace Go.Proofs.YtmocooihkobdjaaDoor.Open
open Go Go.RowKit Go.Deep Go.Proofs.YtmocooihkobdjaaDoorW.PrintWords Go.Proofs.YtmocooihkobdjaaDoor.I Go.Proofs.YtmocooihkobdjaaDoor.Model
section
variable {H : Type} {enc : TypeId × Value → H} {W : World}
theorem three_of {α : Type} {cs : List α} (h : cs.length = 3) : ∃ a b c, cs = [a, b, c] := by
  match cs, h with
  | [a, b, c], _ => exact ⟨a, b, c, rfl⟩
theorem opens_rel : Opens enc Tryd.prog W 46 k46 (fun x d => d = .agg [.lit (.string x.f0.data.toList), .lit (.int .i64 x.f1), .lit (.string x.f2.data.toList)]) := by
  intro fuel cs x h
  obtain ⟨y0, y1, y2, n, rfl, hl, h0, h1, h2⟩ := trod_struct3 Tryd.underlying46 h
  obtain ⟨s0, c0, rfl, _⟩ := DataW.trod_string Tryd.underlying9 h0
  obtain ⟨z, c1, rfl, _⟩ := DataW.trod_int Tryd.underlying3 h1
  obtain ⟨s2, c2, rfl, _⟩ := DataW.trod_string Tryd.underlying9 h2
  have eR : Tryd.prog.cellsOf 46 = 3 := by kernel_rfl
  have eS : Tryd.prog.cellsOf 9 = 1 := by kernel_rfl
  have eI : Tryd.prog.cellsOf 3 = 1 := by kernel_rfl
  simp only [eR, eS, eI] at hl c0 c1 c2
  clear h h0 h1 h2 eR eS eI
  obtain ⟨a, b, c, rfl⟩ := three_of hl
  simp only [List.drop_zero, List.drop_succ_cons, List.take_succ_cons, List.take_zero, List.cons.injEq, and_true] at c0 c1 c2
  subst c0 c1 c2
  exact ⟨⟨s0, z, s2⟩, k46_mk W ⟨s0, z, s2⟩, rfl⟩
theorem opens_row : Opens enc Tryd.prog W 23 (Kd.slice 46 k46) (SliceQ (fun (x : S46) (d : DataW H) => d = .agg [.lit (.string x.f0.data.toList), .lit (.int .i64 x.f1), .lit (.string x.f2.data.toList)])) :=
  opens_slice Tryd.underlying23 (by kernel_rfl) opens_rel
theorem rel_bulk (x : S46) (d : DataW H) (h : d = .agg [.lit (.string x.f0.data.toList), .lit (.int .i64 x.f1), .lit (.string x.f2.data.toList)]) : relW x ≤ Rows.uptoBulk d := by
  subst h
  simp only [Rows.uptoBulk, Rows.uptoBulkAll, Array.length_toList]
  have e0 : x.f0.data.size = x.f0.size := rfl
  have e2 : x.f2.data.size = x.f2.size := rfl
  unfold relW
  omega
theorem row_bulk (l : List S46) (d : DataW H) (h : SliceQ (fun (x : S46) (d : DataW H) => d = .agg [.lit (.string x.f0.data.toList), .lit (.int .i64 x.f1), .lit (.string x.f2.data.toList)]) l d) : rowW l ≤ Rows.uptoBulk d :=
  slice_sum (all := Rows.uptoBulkAll) (by simp only [Rows.uptoBulk]) (fun e s => by simp only [Rows.uptoBulk]) (fun d r => by simp only [Rows.uptoBulkAll]) rel_bulk h
end
end Go.Proofs.YtmocooihkobdjaaDoor.Open
end
section
namespace Go.Proofs.YtmocooihkobdjaaDoor.Open
open Go Go.RowKit Go.Deep Go.WideShapes Go.ChangeShapes Go.Proofs.YtmocooihkobdjaaDoorW.PrintWords Go.Proofs.YtmocooihkobdjaaDoor.I Go.Proofs.YtmocooihkobdjaaDoor.Model
section
variable {H : Type} {enc : TypeId × Value → H} {W : World}
theorem opens_wish : Opens enc Tryd.prog W 48 k48 (fun x d => d = .agg [.lit (.bool x.f0), .agg [.lit (.string x.f1.f0.data.toList), .lit (.int .i64 x.f1.f1), .lit (.string x.f1.f2.data.toList)]]) := by
  intro fuel cs x h
  obtain ⟨y0, y1, n, rfl, hl, h0, h1⟩ := trod_struct2 Tryd.underlying48 h
  obtain ⟨b, c0, rfl⟩ := DataW.trod_bool Tryd.underlying4 h0
  obtain ⟨r, kr, rfl'⟩ := opens_rel _ _ _ h1
  have eW : Tryd.prog.cellsOf 48 = 4 := by kernel_rfl
  have eR : Tryd.prog.cellsOf 46 = 3 := by kernel_rfl
  have eB : Tryd.prog.cellsOf 4 = 1 := by kernel_rfl
  simp only [eW, eR, eB] at hl c0 kr
  clear h h0 h1 eW eR eB
  obtain ⟨a, cs, rfl⟩ : ∃ a r, cs = a :: r := by
    cases cs with
    | nil => simp at hl
    | cons a r => exact ⟨a, r, rfl⟩
  simp only [List.drop_zero, List.drop_succ_cons, List.take_succ_cons, List.take_zero, List.cons.injEq, and_true] at c0 kr
  subst c0
  have e3 : cs.take 3 = cs := List.take_of_length_le (by simp only [List.length_cons] at hl; omega)
  rw [e3] at kr
  exact ⟨⟨b, r⟩, ⟨[.bool b], cs, rfl, rfl, kr⟩, by show DataW.agg [_, y1.1] = _; rw [rfl']⟩
theorem wish_bulk (x : S48) (d : DataW H) (h : d = .agg [.lit (.bool x.f0), .agg [.lit (.string x.f1.f0.data.toList), .lit (.int .i64 x.f1.f1), .lit (.string x.f1.f2.data.toList)]]) : relW x.f1 ≤ Rows.uptoBulk d := by
  subst h
  simp only [Rows.uptoBulk, Rows.uptoBulkAll, Array.length_toList]
  have e0 : x.f1.f0.data.size = x.f1.f0.size := rfl
  have e2 : x.f1.f2.data.size = x.f1.f2.size := rfl
  unfold relW
  omega
theorem reqThree : Tryd.prog.cellsOf 26 = 3 := by kernel_rfl
set_option maxRecDepth 100000 in
theorem open_req {r : Reach} {b0 : Nat} {v : Value} {d : DataW H} {p : List MemPlace} (hv : Value.okWide Tryd.prog W r b0 26 v) (h : DataW.Trod enc Tryd.prog W 0 (fun _ => true) true 26 v d p) :
    ∃ (L : List (List S46)) (F : List S46) (Wi : List S48) (A0 A1 A2 : Option Addr) (c0 c1 c2 : Nat), v = .agg #[.slice A0 L.length c0, .slice A1 F.length c1, .slice A2 Wi.length c2] ∧
      L.length ≤ c0 ∧ F.length ≤ c1 ∧ Wi.length ≤ c2 ∧ Kd.C (Kd.slice 46 k46) W A0 L.length L ∧ Kd.C k46 W A1 F.length F ∧ Kd.C k48 W A2 Wi.length Wi ∧ reqW L F Wi ≤ Rows.uptoBulk d := by
  obtain ⟨u0, u1, u2, z0, z1, z2, n, rfl, rfl, rfl, t0, t1, t2⟩ := Joins.open_agg3 Tryd.underlying26 (by kernel_rfl) reqThree hv h
  obtain ⟨L, A0, c0, e0, l0, k0, q0⟩ := slice_cells Tryd.underlying22 (d := Kd.slice 46 k46) (by kernel_rfl) opens_row t0
  obtain ⟨F, A1, c1, e1, l1, k1, q1⟩ := slice_cells Tryd.underlying23 (d := k46) (by kernel_rfl) opens_rel t1
  obtain ⟨Wi, A2, c2, e2, l2, k2, q2⟩ := slice_cells Tryd.underlying24 (d := k48) (by kernel_rfl) opens_wish t2
  have b0 : rowsW L ≤ Rows.uptoBulk z0.1 := slice_sum (all := Rows.uptoBulkAll) (by simp only [Rows.uptoBulk]) (fun e s => by simp only [Rows.uptoBulk]) (fun d r => by simp only [Rows.uptoBulkAll]) row_bulk q0
  have b1 : rowW F ≤ Rows.uptoBulk z1.1 := slice_sum (all := Rows.uptoBulkAll) (by simp only [Rows.uptoBulk]) (fun e s => by simp only [Rows.uptoBulk]) (fun d r => by simp only [Rows.uptoBulkAll]) rel_bulk q1
  have b2 : (Wi.map (fun x => relW x.f1)).sum + 1 ≤ Rows.uptoBulk z2.1 := slice_sum (all := Rows.uptoBulkAll) (by simp only [Rows.uptoBulk]) (fun e s => by simp only [Rows.uptoBulk]) (fun d r => by simp only [Rows.uptoBulkAll]) wish_bulk q2
  have b3 : rowW (wrels Wi) = (Wi.map (fun x => relW x.f1)).sum + 1 := by
    unfold rowW wrels
    rw [List.map_map]; rfl
  simp only [List.cons.injEq, and_true] at e0 e1 e2
  subst e0 e1 e2
  refine ⟨L, F, Wi, A0, A1, A2, c0, c1, c2, rfl, l0, l1, l2, k0, k1, k2, ?_⟩
  simp only [Rows.uptoBulk, Rows.uptoBulkAll]
  unfold reqW
  omega
end
end Go.Proofs.YtmocooihkobdjaaDoor.Open
end
section
namespace Go.Proofs.YtmocooihkobdjaaDoor.Open
open Go Go.RowKit Go.Deep Go.Proofs.YtmocooihkobdjaaDoorW.PrintWords
section
variable {H : Type} {enc : TypeId × Value → H} {W : World}
theorem opens_num : Opens enc Tryd.prog W 3 (Kd.int .i64) (fun x d => d = .lit (.int .i64 x)) := by
  intro fuel cs x h
  obtain ⟨z, rfl, rfl, _⟩ := DataW.trod_int Tryd.underlying3 h
  exact ⟨z, rfl, rfl⟩
theorem open_nums {A : Option Addr} {n c : Nat} {d : DataW H} {p : List MemPlace} (h : DataW.Trod enc Tryd.prog W 0 (fun _ => true) true 41 (.slice A n c) d p) :
    ∃ L : List Int, n = L.length ∧ L.length ≤ c ∧ Kd.C (Kd.int .i64) W A L.length L ∧ L.length + 1 ≤ Rows.uptoBulk d := by
  obtain ⟨fuel, hf⟩ := h
  obtain ⟨L, A', c', h1, h2, h3, h4⟩ := slice_cells Tryd.underlying41 (d := Kd.int .i64) (by kernel_rfl) opens_num hf
  simp only [Value.cells, List.cons.injEq, Value.slice.injEq, and_true] at h1
  obtain ⟨rfl, rfl, rfl⟩ := h1
  have h5 := slice_sum (m := fun _ => 1) (bulk := Rows.uptoBulk) (all := Rows.uptoBulkAll) (by simp only [Rows.uptoBulk]) (fun e s => by simp only [Rows.uptoBulk]) (fun d r => by simp only [Rows.uptoBulkAll]) (fun a b hab => by rw [hab]; simp [Rows.uptoBulk]) h4
  have h6 : (L.map fun _ => 1).sum = L.length := by
    clear h3 h4 h5 h2 hf
    induction L with
    | nil => rfl
    | cons a L ih => rw [List.map_cons, List.sum_cons, ih, List.length_cons]; omega
  rw [h6] at h5
  exact ⟨L, rfl, h2, h3, h5⟩
end
end Go.Proofs.YtmocooihkobdjaaDoor.Open
end
section
namespace Go.Proofs.YtmocooihkobdjaaDoor.requestIdle
open Go.ChangeShapes Go.WideShapes Go.ChangeAt Go.RowKit
open Go.ChangeMaps (open_string shut_string)
set_option linter.unusedVariables false
set_option linter.unusedSimpArgs false
theorem own : ownKnob Tryd.prog.godebug = none := by kernel_rfl
theorem laidOut : laidOutB Tryd.prog = true := by kernel_rfl
set_option maxRecDepth 100000 in
theorem contract (H : Type) (enc : TypeId × Value → H) (W : World) (base : Nat) (args : Array Value) (ds gs : List (DataW H)) (before : List MemPlace)
    (hval : ∀ (j : Nat) t v, Tryd.f10.params[j]? = some t → args[j]? = some v → Value.okWide Tryd.prog W .any base t v)
    (hW : DataW.Whole enc Tryd.prog Tryd.f10.params.toList Rows.requestIdleSpec.vars false W args.toList ds gs before) (hL : laidMetH Tryd.prog Rows.requestIdleUptoRow.laid W) (hSh : W.ShapedOpen Tryd.prog) (hc : Rows.uptoSmall H (ds ++ gs) = true) :
    Calls Tryd.prog 10 args W fun e W' => ∃ v, e = .returned v ∧ Rows.requestIdleSpec.post enc Tryd.prog Tryd.f10 false true false false W args v W' := by
  have hW' := hW
  obtain ⟨p, q, hA0, hV, rfl, hfz, hnd⟩ := hW
  have hA : DataW.TrodAll enc Tryd.prog W 0 (fun _ => true) true Tryd.f10.params.toList args.toList ds p := hA0
  rw [Tryd.params10] at hA hval
  obtain ⟨v0, vs0, d0, ds0, p0, q0, hargs, rfl, rfl, h0, r0⟩ := trodAll_cons hA
  obtain ⟨v1, vs1, d1, ds1, p1, q1, hargs1, rfl, rfl, h1, r1⟩ := trodAll_cons r0
  obtain ⟨rfl, rfl, rfl⟩ := trodAll_nil r1
  subst hargs1
  obtain rfl : args = #[v0, v1] := Array.ext' hargs
  obtain ⟨rfl, rfl⟩ := trodVars_none hV
  have z := of_decide_eq_true hc
  simp only [List.append_nil, List.cons_append, List.nil_append, Rows.uptoBulkAll] at z
  have k0 := h0
  have lt0 : ∀ x ∈ p0, x.block < W.heap.size := by obtain ⟨m, hm⟩ := k0; exact DataW.trod_lt m _ _ _ hm
  obtain ⟨L0, F0, Wi0, A0_0, A0_1, A0_2, c0_0, c0_1, c0_2, rfl, l0_0, l0_1, l0_2, kd0_0, kd0_1, kd0_2, bk0⟩ := Open.open_req (hval 0 26 v0 rfl rfl) h0
  have w0 : Model.reqW L0 F0 Wi0 ≤ 1048576 := by omega
  obtain ⟨A1, n1, c1, rfl⟩ := okWide_slice Tryd.underlying41 (hval 1 41 v1 rfl rfl)
  have k1 := h1
  have lt1 : ∀ x ∈ p1, x.block < W.heap.size := by obtain ⟨m, hm⟩ := k1; exact DataW.trod_lt m _ _ _ hm
  obtain ⟨a1, rfl, le1, kd1, bk1⟩ := Open.open_nums h1
  have w1 : a1.length ≤ 1048576 := by omega
  clear hA0
  obtain ⟨k, hk⟩ := (Model.requestIdle_ev L0 F0 Wi0 a1 w0 w1).rounds
  refine (I.depotlaw24_RequestIdle.calls k A0_0 c0_0 L0 A0_1 c0_1 F0 A0_2 c0_2 Wi0 A1 c1 a1 true W kd0_0 l0_0 kd0_1 l0_1 kd0_2 l0_2 kd1 le1 (GG_of hL hSh) hk rfl).mono fun e W' ⟨he, bel⟩ => ?_
  subst he
  exact ⟨_, rfl, _, _, _, [], _, [], hW', trodAll_mk1 (shut_bool Tryd.underlying4 _), (trodAll_cons_mk (Below.trod laidOut (by kernel_rfl) (of_decide_eq_true (by kernel_rfl)) k0 bel lt0) (trodAll_cons_mk (Below.trod laidOut (by kernel_rfl) (of_decide_eq_true (by kernel_rfl)) k1 bel lt1) trodAll_mk0)), rfl, bel.frame _, fun h => by cases h⟩
noncomputable def laidWorld (os : Os) : World := wholeWorld os
theorem laid_met (os : Os) : laidMet Tryd.prog Rows.requestIdleUptoRow.laid ((laidWorld os).forCall (fun _ _ => 0) ⟨#[], #[.agg #[.slice none 0 0, .slice none 0 0, .slice none 0 0], .slice none 0 0], []⟩).memory :=
  laidMet_of_run' 8 (by kernel_rfl) (by kernel_rfl)
theorem reads (os : Os) {H : Type} (enc : TypeId × Value → H) : ∃ places, DataW.whole enc Tryd.prog ((laidWorld os).forCall (fun _ _ => 0) ⟨#[], #[.agg #[.slice none 0 0, .slice none 0 0, .slice none 0 0], .slice none 0 0], []⟩).memory Tryd.f10.params.toList Rows.requestIdleSpec.vars false (#[.agg #[.slice none 0 0, .slice none 0 0, .slice none 0 0], .slice none 0 0] : Array Value).toList 8 = some ([.agg [.nil, .nil, .nil], .nil], [], places) :=
  ⟨[], by kernel_rfl⟩
set_option maxRecDepth 100000 in
theorem lifted (os : Os) (started : os.Started) (H : Type) (enc : TypeId × Value → H) (F : Stop.Interp) :
    ReturnsInHanded {} Tryd.checked os 10 .any ((Rows.OpenSpec.upto Rows.requestIdleSpec).preRow enc Tryd.prog Tryd.f10 Rows.requestIdleUptoRow.domain false Rows.requestIdleUptoRow.laid) (((Rows.OpenSpec.upto Rows.requestIdleSpec).at F).post enc Tryd.prog Tryd.f10 false true false false) := by
  obtain ⟨places, hx⟩ := reads os enc
  refine returnsInHanded_of_row (C := Tryd.checked) (s := Rows.OpenSpec.upto Rows.requestIdleSpec) own started (by kernel_rfl) Tryd.func10
    (witness_row_at (enc := enc) (C := Tryd.checked) false (laidWorld os) #[.agg #[.slice none 0 0, .slice none 0 0, .slice none 0 0], .slice none 0 0] rfl (by kernel_rfl) (by kernel_rfl) (by kernel_rfl)
      (OpenSpec.preRow_of_cond 8 hx (by kernel_rfl) (fun k hk => by cases hk; kernel_rfl) (by kernel_rfl) (laid_met os))) ?_
  intro W base args ds gs before hval hW _ hc _ hL hSh _
  exact contract H enc W base args ds gs before hval hW hL hSh (hc _ rfl)
theorem said : Rows.RequestIdleUptoSaid :=
  OpenClaim.holds_of_cond 10 Tryd.f10 rfl rfl rfl rfl rfl rfl rfl ⟨rfl, rfl, rfl, rfl, rfl⟩ rfl rfl rfl rfl rfl (by kernel_rfl) Tryd.func10 (by kernel_rfl)
    (of_decide_eq_true (by kernel_rfl)) (by unfold Func.isWrapper; first | (rw [if_pos (by decide +kernel)]; kernel_rfl) | (rw [if_neg (by decide +kernel)]; exact ⟨rfl, rfl⟩))
    (fun os started H enc _ F => by rw [OpenClaim.pre_eq_preRow]; exact lifted os started H enc F)
theorem plain (f : FuncId) (fn : Func) (hf : Tryd.pinned.checked.prog.funcNamed "depot/depotlaw24.RequestIdle" = some f) (hfn : Tryd.pinned.checked.prog.funcs[f]? = some fn) :
    true = Tryd.pinned.checked.prog.looks [] ∧ ∀ (j : Nat) t, fn.params[j]? = some t → Tryd.pinned.checked.prog.wantsStandIn t = false := by
  obtain rfl : f = 10 := Option.some.inj ((show Tryd.prog.funcNamed "depot/depotlaw24.RequestIdle" = some 10 by kernel_rfl).symm.trans hf) |>.symm
  obtain rfl : fn = Tryd.f10 := (Option.some.inj (Tryd.func10.symm.trans hfn)).symm
  refine ⟨by kernel_rfl, fun j t ht => ?_⟩
  rw [Tryd.params10] at ht
  have h26 : Tryd.prog.wantsStandIn 26 = false := by kernel_rfl
  have h41 : Tryd.prog.wantsStandIn 41 = false := by kernel_rfl
  have hm := Array.mem_of_getElem? ht
  have : t = 26 ∨ t = 41 := by simpa using hm
  rcases this with rfl | rfl
  · exact h26
  · exact h41
theorem card : Rows.RequestIdleUptoCardSaid :=
  Claim7.holds_tied_plain_at .later [] _ _ _ _ said (fun _ h => by cases h) (by kernel_rfl) (fun _ h => by cases h) requestIdleUpto_row_tie rfl ⟨rfl, rfl⟩ (by kernel_rfl) rfl plain (by kernel_rfl)
#print axioms card
end Go.Proofs.YtmocooihkobdjaaDoor.requestIdle
namespace Go.Proofs.YtmocooihkobdjaaDoor
theorem requestIdle_holds : Rows.RequestIdleUptoCardSaid := requestIdle.card
end Go.Proofs.YtmocooihkobdjaaDoor
end
