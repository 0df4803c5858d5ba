/-
  Plain Lean: relation's reading (its reader) and the reference's (depotref22) come to the same, for every text.
-/
import Derived.Test.YtphabealejpfnaaDoorLegal
set_option linter.unusedVariables false
set_option linter.unusedSimpArgs false
namespace Go.Proofs.YtphabealejpfnaaDoor.Read
open Go.RowKit Go.Proofs.YtphabealejpfnaaDoor.R Go.Proofs.YtphabealejpfnaaDoorW.PrintWords Go.Proofs.YtphabealejpfnaaDoorW.PrintLast Go.Proofs.YtphabealejpfnaaDoor.Ver

/-! ### what a byte is -/
def kindOf (c : Int) : Int := if c = 32 ∨ c = 9 ∨ c = 10 then 1 else if c = 44 ∨ c = 124 ∨ c = 40 ∨ c = 41 then 2 else if c = 60 ∨ c = 61 ∨ c = 62 then 3 else 0
theorem kj1_ev (c : Int) (b : Bool) : Ev (fun k => relation_kind.j1 k c b) (if b = true then 2 else if c = 60 ∨ c = 61 ∨ c = 62 then 3 else 0) := by
  refine Ev.step (f := fun _ => some (if b = true then 2 else if c = 60 ∨ c = 61 ∨ c = 62 then 3 else 0)) (fun k => ?_) (Ev.now _)
  simp only [relation_kind.j1]
  repeat' split
  all_goals simp_all
theorem kj0_ev (c : Int) (b : Bool) : Ev (fun k => relation_kind.j0 k c b) (if b = true then 1 else if c = 44 ∨ c = 124 ∨ c = 40 ∨ c = 41 then 2 else if c = 60 ∨ c = 61 ∨ c = 62 then 3 else 0) := by
  refine Ev.step (f := fun k => if b = true then some 1 else relation_kind.j1 k c (decide (c = 44 ∨ c = 124 ∨ c = 40 ∨ c = 41))) (fun k => ?_) ?_
  · simp only [relation_kind.j0]
    by_cases h1 : c = 44
    · subst h1; simp
    by_cases h2 : c = 124
    · subst h2; simp
    by_cases h3 : c = 40
    · subst h3; simp
    · by_cases h4 : c = 41
      · subst h4; simp
      · have h5 : (c == 41) = false := beq_eq_false_iff_ne.2 h4
        simp [h1, h2, h3, h4, h5]
  · cases b with
    | true => simpa using Ev.now _
    | false =>
      have := kj1_ev c (decide (c = 44 ∨ c = 124 ∨ c = 40 ∨ c = 41))
      simpa using this
theorem kind_ev (c : Int) : Ev (fun k => relation_kind.f k c) (kindOf c) := by
  have h := kj0_ev c (decide (c = 32 ∨ c = 9 ∨ c = 10))
  have e : (fun k => relation_kind.f k c) = fun k => relation_kind.j0 k c (decide (c = 32 ∨ c = 9 ∨ c = 10)) := by
    funext k
    unfold relation_kind.f
    by_cases h1 : c = 32
    · subst h1; simp
    by_cases h2 : c = 9
    · subst h2; simp
    · by_cases h4 : c = 10
      · subst h4; simp
      · have h5 : (c == 10) = false := beq_eq_false_iff_ne.2 h4
        simp [h1, h2, h4, h5]
  rw [e]
  simpa [kindOf] using h
theorem gap_eq (c : Int) : depotref22_gap.f c = some (decide (kindOf c = 1)) := by
  unfold depotref22_gap.f kindOf
  repeat' split
  all_goals simp_all

/-! ### gaps -/
theorem gaps_ev (s : ByteArray) (hs : s.size ≤ 140737488351232) : ∀ (d i : Nat), i + d = s.size → ∃ e : Nat, i ≤ e ∧ e ≤ s.size ∧ Ev (fun k => relation_reader_gaps.f k s (i : Int)) (s, (e : Int)) ∧ Ev (fun k => depotref22_behind.f k s (i : Int)) (e : Int) := by
  intro d
  unfold relation_reader_gaps.f depotref22_behind.f
  induction d with
  | zero =>
    intro i hi
    refine ⟨i, Nat.le_refl _, by omega, ?_, ?_⟩
    · refine Ev.step (f := fun _ => some (s, (i : Int))) (fun k => ?_) (Ev.now _)
      simp only [relation_reader_gaps.l0]
      rw [if_neg (by omega)]
    · refine Ev.step (f := fun _ => some (i : Int)) (fun k => ?_) (Ev.now _)
      simp only [depotref22_behind.l0]
      rw [if_neg (by omega)]
  | succ d ih =>
    intro i hi
    have ew : wrap64 ((i : Int) + 1) = ((i + 1 : Nat) : Int) := by rw [wrap_id (by omega) (by omega)]; omega
    by_cases hk : kindOf (bt s i) = 1
    · obtain ⟨e, h1, h2, h3, h4⟩ := ih (i + 1) (by omega)
      refine ⟨e, by omega, h2, ?_, ?_⟩
      · refine Ev.step (f := fun k => (relation_kind.f k (bt s i)).bind fun t => if t = 1 then relation_reader_gaps.l0 k s ((i + 1 : Nat) : Int) else some (s, (i : Int))) (fun k => ?_) ?_
        · simp only [relation_reader_gaps.l0]
          rw [if_pos (by omega), if_pos (by omega), ew]
        · refine Ev.bind (kind_ev _) ?_
          simp only [if_pos hk]
          exact h3
      · refine Ev.step (f := fun k => depotref22_behind.l0 k s ((i + 1 : Nat) : Int)) (fun k => ?_) h4
        simp only [depotref22_behind.l0]
        rw [if_pos (by omega), if_pos (by omega), gap_eq, ew]
        simp [hk]
    · refine ⟨i, Nat.le_refl _, by omega, ?_, ?_⟩
      · refine Ev.step (f := fun k => (relation_kind.f k (bt s i)).bind fun t => if t = 1 then relation_reader_gaps.l0 k s ((i + 1 : Nat) : Int) else some (s, (i : Int))) (fun k => ?_) ?_
        · simp only [relation_reader_gaps.l0]
          rw [if_pos (by omega), if_pos (by omega), ew]
        · refine Ev.bind (kind_ev _) ?_
          simp only [if_neg hk]
          exact Ev.now _
      · refine Ev.step (f := fun _ => some (i : Int)) (fun k => ?_) (Ev.now _)
        simp only [depotref22_behind.l0]
        rw [if_pos (by omega), if_pos (by omega), gap_eq]
        simp [hk]

theorem runstop (s : ByteArray) (st i : Nat) (hs : s.size ≤ 140737488351232) (hi : i < s.size) (hst : st ≤ i) (hk : kindOf (bt s i) = 1 ∨ kindOf (bt s i) = 2) :
    Ev (fun k => relation_reader_run.l0 k false (i : Int) s (st : Int)) (s.extract (st : Int).toNat (i : Int).toNat, s, (st : Int)) := by
  refine Ev.step (f := fun k => (relation_kind.f k (bt s i)).bind fun t => if t = 1 then some (s.extract (st : Int).toNat (i : Int).toNat, s, (st : Int)) else if t = 2 then some (s.extract (st : Int).toNat (i : Int).toNat, s, (st : Int)) else relation_reader_run.l0 k false (wrap64 ((i : Int) + 1)) s (st : Int)) (fun k => ?_) ?_
  · simp only [relation_reader_run.l0, if_pos (show (i : Int) < s.size by omega), if_pos (show (0 : Int) ≤ i by omega), if_pos (show (0 : Int) ≤ st by omega), if_pos (show (st : Int) ≤ i by omega), if_pos (show (i : Int) ≤ s.size by omega), Bool.false_eq_true, if_false]
  · refine Ev.bind (kind_ev _) ?_
    rcases hk with hk | hk
    · simp only [if_pos hk]; exact Ev.now _
    · simp only [if_neg (show ¬ kindOf (bt s i) = 1 by omega), if_pos hk]; exact Ev.now _
theorem runstep (s : ByteArray) (st i : Nat) (hs : s.size ≤ 140737488351232) (hi : i < s.size) (hst : st ≤ i) (hk : ¬ (kindOf (bt s i) = 1 ∨ kindOf (bt s i) = 2)) (v : ByteArray × ByteArray × Int)
    (h : Ev (fun k => relation_reader_run.l0 k false ((i + 1 : Nat) : Int) s (st : Int)) v) : Ev (fun k => relation_reader_run.l0 k false (i : Int) s (st : Int)) v := by
  have ew : wrap64 ((i : Int) + 1) = ((i + 1 : Nat) : Int) := by rw [wrap_id (by omega) (by omega)]; omega
  refine Ev.step (f := fun k => (relation_kind.f k (bt s i)).bind fun t => if t = 1 then some (s.extract (st : Int).toNat (i : Int).toNat, s, (st : Int)) else if t = 2 then some (s.extract (st : Int).toNat (i : Int).toNat, s, (st : Int)) else relation_reader_run.l0 k false ((i + 1 : Nat) : Int) s (st : Int)) (fun k => ?_) ?_
  · simp only [relation_reader_run.l0, if_pos (show (i : Int) < s.size by omega), if_pos (show (0 : Int) ≤ i by omega), if_pos (show (0 : Int) ≤ st by omega), if_pos (show (st : Int) ≤ i by omega), if_pos (show (i : Int) ≤ s.size by omega), Bool.false_eq_true, if_false, ew]
  · refine Ev.bind (kind_ev _) ?_
    simp only [if_neg (fun q => hk (.inl q)), if_neg (fun q => hk (.inr q))]
    exact h
theorem signstop (s : ByteArray) (st i : Nat) (hs : s.size ≤ 140737488351232) (hi : i < s.size) (hst : st ≤ i) (hk : ¬ kindOf (bt s i) = 3) :
    Ev (fun k => relation_reader_run.l0 k true (i : Int) s (st : Int)) (s.extract (st : Int).toNat (i : Int).toNat, s, (st : Int)) := by
  refine Ev.step (f := fun k => (relation_kind.f k (bt s i)).bind fun t => if t = 3 then (if t = 1 then some (s.extract (st : Int).toNat (i : Int).toNat, s, (st : Int)) else if t = 2 then some (s.extract (st : Int).toNat (i : Int).toNat, s, (st : Int)) else relation_reader_run.l0 k true (wrap64 ((i : Int) + 1)) s (st : Int)) else some (s.extract (st : Int).toNat (i : Int).toNat, s, (st : Int))) (fun k => ?_) ?_
  · simp only [relation_reader_run.l0, if_pos (show (i : Int) < s.size by omega), if_pos (show (0 : Int) ≤ i by omega), if_pos (show (0 : Int) ≤ st by omega), if_pos (show (st : Int) ≤ i by omega), if_pos (show (i : Int) ≤ s.size by omega), if_true]
  · refine Ev.bind (kind_ev _) ?_
    simp only [if_neg hk]; exact Ev.now _
theorem signstep (s : ByteArray) (st i : Nat) (hs : s.size ≤ 140737488351232) (hi : i < s.size) (hst : st ≤ i) (hk : kindOf (bt s i) = 3) (v : ByteArray × ByteArray × Int)
    (h : Ev (fun k => relation_reader_run.l0 k true ((i + 1 : Nat) : Int) s (st : Int)) v) : Ev (fun k => relation_reader_run.l0 k true (i : Int) s (st : Int)) v := by
  have ew : wrap64 ((i : Int) + 1) = ((i + 1 : Nat) : Int) := by rw [wrap_id (by omega) (by omega)]; omega
  refine Ev.step (f := fun k => (relation_kind.f k (bt s i)).bind fun t => if t = 3 then (if t = 1 then some (s.extract (st : Int).toNat (i : Int).toNat, s, (st : Int)) else if t = 2 then some (s.extract (st : Int).toNat (i : Int).toNat, s, (st : Int)) else relation_reader_run.l0 k true ((i + 1 : Nat) : Int) s (st : Int)) else some (s.extract (st : Int).toNat (i : Int).toNat, s, (st : Int))) (fun k => ?_) ?_
  · simp only [relation_reader_run.l0, if_pos (show (i : Int) < s.size by omega), if_pos (show (0 : Int) ≤ i by omega), if_pos (show (0 : Int) ≤ st by omega), if_pos (show (st : Int) ≤ i by omega), if_pos (show (i : Int) ≤ s.size by omega), if_true, ew]
  · refine Ev.bind (kind_ev _) ?_
    simp only [if_pos hk, if_neg (show ¬ kindOf (bt s i) = 1 by omega), if_neg (show ¬ kindOf (bt s i) = 2 by omega)]
    exact h

/-! ### runs -/
theorem ext_size (s : ByteArray) (i e : Nat) (h1 : i ≤ e) (h2 : e ≤ s.size) : (s.extract (i : Int).toNat (e : Int).toNat).size = e - i := by
  simp [ByteArray.size_extract]
  omega
theorem word_ev (s : ByteArray) (st : Nat) (hs : s.size ≤ 140737488351232) : ∀ (d i : Nat), i + d = s.size → st ≤ i → ∃ e : Nat, i ≤ e ∧ e ≤ s.size ∧
    Ev (fun k => relation_reader_run.l0 k false (i : Int) s (st : Int)) (s.extract (st : Int).toNat (e : Int).toNat, s, (st : Int)) ∧ Ev (fun k => depotref22_word.l0 k s (i : Int)) (e : Int) := by
  intro d
  induction d with
  | zero =>
    intro i hi hst
    refine ⟨i, Nat.le_refl _, by omega, ?_, ?_⟩
    · refine Ev.step (f := fun _ => some (s.extract (st : Int).toNat (i : Int).toNat, s, (st : Int))) (fun k => ?_) (Ev.now _)
      simp only [relation_reader_run.l0]
      rw [if_neg (by omega), if_pos (by omega), if_pos (by omega), if_pos (by omega)]
    · refine Ev.step (f := fun _ => some (i : Int)) (fun k => ?_) (Ev.now _)
      simp only [depotref22_word.l0]
      rw [if_neg (by omega)]
  | succ d ih =>
    intro i hi hst
    have ew : wrap64 ((i : Int) + 1) = ((i + 1 : Nat) : Int) := by rw [wrap_id (by omega) (by omega)]; omega
    have hst2 : (st : Int) ≤ (i : Int) := by omega
    by_cases hk : kindOf (bt s i) = 1 ∨ kindOf (bt s i) = 2
    · refine ⟨i, Nat.le_refl _, by omega, ?_, ?_⟩
      · exact runstop s st i hs (by omega) hst hk
      · refine Ev.step (f := fun _ => some (i : Int)) (fun k => ?_) (Ev.now _)
        simp only [depotref22_word.l0]
        rw [if_pos (by omega), if_pos (by omega), gap_eq]
        simp only [Option.bind_some]
        unfold kindOf at hk ⊢
        repeat' split
        all_goals first | rfl | (exfalso; simp_all; done) | (exfalso; simp_all; omega)
    · obtain ⟨e, h1, h2, h3, h4⟩ := ih (i + 1) (by omega) (by omega)
      refine ⟨e, by omega, h2, ?_, ?_⟩
      · exact runstep s st i hs (by omega) hst hk _ h3
      · refine Ev.step (f := fun k => depotref22_word.l0 k s ((i + 1 : Nat) : Int)) (fun k => ?_) h4
        simp only [depotref22_word.l0]
        rw [if_pos (by omega), if_pos (by omega), gap_eq, ew]
        simp only [Option.bind_some]
        unfold kindOf at hk ⊢
        repeat' split
        all_goals first | rfl | (exfalso; simp_all; done) | (exfalso; simp_all; omega)
theorem sign_ev (s : ByteArray) (st : Nat) (hs : s.size ≤ 140737488351232) : ∀ (d i : Nat), i + d = s.size → st ≤ i → ∃ e : Nat, i ≤ e ∧ e ≤ s.size ∧
    Ev (fun k => relation_reader_run.l0 k true (i : Int) s (st : Int)) (s.extract (st : Int).toNat (e : Int).toNat, s, (st : Int)) ∧ Ev (fun k => depotref22_sign.l0 k s (i : Int)) (e : Int) := by
  intro d
  induction d with
  | zero =>
    intro i hi hst
    refine ⟨i, Nat.le_refl _, by omega, ?_, ?_⟩
    · refine Ev.step (f := fun _ => some (s.extract (st : Int).toNat (i : Int).toNat, s, (st : Int))) (fun k => ?_) (Ev.now _)
      simp only [relation_reader_run.l0]
      rw [if_neg (by omega), if_pos (by omega), if_pos (by omega), if_pos (by omega)]
    · refine Ev.step (f := fun _ => some (i : Int)) (fun k => ?_) (Ev.now _)
      simp only [depotref22_sign.l0]
      rw [if_neg (by omega)]
  | succ d ih =>
    intro i hi hst
    have ew : wrap64 ((i : Int) + 1) = ((i + 1 : Nat) : Int) := by rw [wrap_id (by omega) (by omega)]; omega
    by_cases hk : kindOf (bt s i) = 3
    · obtain ⟨e, h1, h2, h3, h4⟩ := ih (i + 1) (by omega) (by omega)
      refine ⟨e, by omega, h2, signstep s st i hs (by omega) hst hk _ h3, ?_⟩
      refine Ev.step (f := fun k => depotref22_sign.l0 k s ((i + 1 : Nat) : Int)) (fun k => ?_) h4
      simp only [depotref22_sign.l0]
      rw [if_pos (by omega), if_pos (by omega), ew]
      unfold kindOf at hk
      repeat' split
      all_goals first | rfl | (exfalso; simp_all; done) | (exfalso; simp_all; omega)
    · refine ⟨i, Nat.le_refl _, by omega, signstop s st i hs (by omega) hst hk, ?_⟩
      refine Ev.step (f := fun _ => some (i : Int)) (fun k => ?_) (Ev.now _)
      simp only [depotref22_sign.l0]
      rw [if_pos (by omega), if_pos (by omega)]
      unfold kindOf at hk
      repeat' split
      all_goals first | rfl | (exfalso; simp_all; done) | (exfalso; simp_all; omega)

/-! ### names -/
theorem names_ev (s : ByteArray) (hs : s.size ≤ 140737488351232) : ∃ b, Ev (fun k => relation_Name.f k s) b ∧ Ev (fun k => depotref22_Name.f k s) b := by
  have key : ∀ (d i : Nat), i + d = s.size → ∃ b, Ev (fun k => relation_Name.l0 k s (i : Int)) (b && decide ((s.size : Int) > 1)) ∧ Ev (fun k => depotref22_Name.l0 k s (i : Int)) b := by
    intro d
    induction d with
    | zero =>
      intro i hi
      refine ⟨true, ?_, ?_⟩
      · refine Ev.step (f := fun _ => some (true && decide ((s.size : Int) > 1))) (fun k => ?_) (Ev.now _)
        simp only [relation_Name.l0]
        rw [if_neg (by omega)]
        rfl
      · refine Ev.step (f := fun _ => some true) (fun k => ?_) (Ev.now _)
        simp only [depotref22_Name.l0]
        rw [if_neg (by omega)]
    | succ d ih =>
      intro i hi
      have ew : wrap64 ((i : Int) + 1) = ((i + 1 : Nat) : Int) := by rw [wrap_id (by omega) (by omega)]; omega
      obtain ⟨b, hp, hr⟩ := ih (i + 1) (by omega)
      let c := bt s i
      let pl : Bool := decide ((c ≥ 97 ∧ c ≤ 122) ∨ (c ≥ 48 ∧ c ≤ 57))
      let go : Bool := pl || (decide (i ≠ 0) && decide (c = 43 ∨ c = 45 ∨ c = 46))
      have ep : ∀ k, relation_Name.l0 (k + 2) s (i : Int) = if go = true then relation_Name.l0 k s ((i + 1 : Nat) : Int) else some false := by
        intro k
        simp only [relation_Name.l0, relation_Name.j1, ew, if_pos (show (i : Int) < s.size by omega), if_pos (show (0 : Int) ≤ i by omega)]
        simp only [go, pl, c]
        repeat' split
        all_goals first | rfl | (exfalso; simp_all; done) | (exfalso; simp_all; omega)
      have er : ∀ k, depotref22_Name.l0 (k + 1) s (i : Int) = if go = true then depotref22_Name.l0 k s ((i + 1 : Nat) : Int) else some false := by
        intro k
        simp only [depotref22_Name.l0, ew, if_pos (show (i : Int) < s.size by omega), if_pos (show (0 : Int) ≤ i by omega)]
        simp only [go, pl, c]
        repeat' split
        all_goals first | rfl | (exfalso; simp_all; done) | (exfalso; simp_all; omega)
      cases hg : go with
      | true =>
        refine ⟨b, ?_, Ev.step (f := fun k => depotref22_Name.l0 k s ((i + 1 : Nat) : Int)) (fun k => by rw [er, if_pos hg]) hr⟩
        refine Ev.step (f := fun k => relation_Name.l0 (k + 1) s (i : Int)) (fun k => rfl) (Ev.step (f := fun k => relation_Name.l0 k s ((i + 1 : Nat) : Int)) (fun k => by rw [ep, if_pos hg]) hp)
      | false =>
        refine ⟨false, ?_, Ev.step (f := fun _ => some false) (fun k => by rw [er, if_neg (by simp [hg])]) (Ev.now _)⟩
        refine Ev.step (f := fun k => relation_Name.l0 (k + 1) s (i : Int)) (fun k => rfl) (Ev.step (f := fun _ => some (false && decide ((s.size : Int) > 1))) (fun k => by rw [ep, if_neg (by simp [hg])]; rfl) (Ev.now _))
  unfold relation_Name.f depotref22_Name.f
  obtain ⟨b, hp, hr⟩ := key s.size 0 (by omega)
  by_cases h2 : (s.size : Int) < 2
  · refine ⟨false, ?_, ?_⟩
    · have e : (b && decide ((s.size : Int) > 1)) = false := by
        rw [decide_eq_false (by omega), Bool.and_false]
      rw [← e]
      exact hp
    · simp only [if_pos h2]; exact Ev.now _
  · refine ⟨b, ?_, ?_⟩
    · have e : (b && decide ((s.size : Int) > 1)) = b := by
        rw [decide_eq_true (by omega), Bool.and_true]
      rw [← e]
      exact hp
    · simp only [if_neg h2]
      exact hr
theorem plegal_ev (s : ByteArray) (hs : s.size ≤ 140737488351232) : Ev (fun k => version_Legal.f k s) (okS s) := by
  unfold version_Legal.f
  exact Ev.bind (parted_ev s hs) (Ev.now _)

/-! ### the operator -/
theorem sign_step (s : ByteArray) (a b : Nat) (nm : ByteArray) (h1 : a ≤ b) (h2 : b ≤ s.size) (z : Int) (hz0 : 1 ≤ z) (hz5 : z ≤ 5) (v : ByteArray × Int × ByteArray × Int × Int)
    (h : Ev (fun k => depotref22_one.l0 k s (a : Int) (b : Int) (z + 1) nm (opTo (s.extract (a : Int).toNat (b : Int).toNat) z) ⟨#[]⟩) v) :
    Ev (fun k => depotref22_one.l0 k s (a : Int) (b : Int) z nm (opTo (s.extract (a : Int).toNat (b : Int).toNat) (z - 1)) ⟨#[]⟩) v := by
  refine Ev.step (f := fun k => depotref22_one.l0 k s (a : Int) (b : Int) (z + 1) nm (opTo (s.extract (a : Int).toNat (b : Int).toNat) z) ⟨#[]⟩) (fun k => ?_) h
  simp only [depotref22_one.l0, if_pos hz5, if_pos (show (0 : Int) ≤ a by omega), if_pos (show (a : Int) ≤ b by omega), if_pos (show (b : Int) ≤ s.size by omega)]
  generalize s.extract (a : Int).toNat (b : Int).toNat = m
  have hi := opOf_iff m
  have hz : z = 1 ∨ z = 2 ∨ z = 3 ∨ z = 4 ∨ z = 5 := by omega
  have ew : wrap64 (z + 1) = z + 1 := wrap_id (by omega) (by omega)
  rw [ew]
  by_cases he : opOf m = z
  · have ht : opTo m z = z := opTo_hit m z he
    rw [ht]
    rcases hz with rfl | rfl | rfl | rfl | rfl
    · simp [depotref22_Sign.f, hi.1.1 he]
    · simp [depotref22_Sign.f, hi.2.1.1 he]
    · simp [depotref22_Sign.f, hi.2.2.1.1 he]
    · simp [depotref22_Sign.f, hi.2.2.2.1.1 he]
    · simp [depotref22_Sign.f, hi.2.2.2.2.1 he]
  · have ht : opTo m z = opTo m (z - 1) := by
      have := opTo_miss m (z - 1) (by rw [Int.sub_add_cancel]; exact he)
      rwa [Int.sub_add_cancel] at this
    rw [ht]
    rcases hz with rfl | rfl | rfl | rfl | rfl
    · have := mt hi.1.2 he; simp [depotref22_Sign.f, eq_comm, this]
    · have := mt hi.2.1.2 he; simp [depotref22_Sign.f, eq_comm, this]
    · have := mt hi.2.2.1.2 he; simp [depotref22_Sign.f, eq_comm, this]
    · have := mt hi.2.2.2.1.2 he; simp [depotref22_Sign.f, eq_comm, this]
    · have := mt hi.2.2.2.2.2 he; simp [depotref22_Sign.f, eq_comm, this]
theorem signs_ev (s : ByteArray) (a b : Nat) (nm : ByteArray) (h1 : a ≤ b) (h2 : b ≤ s.size) (v : ByteArray × Int × ByteArray × Int × Int)
    (h : Ev (fun k => depotref22_one.l0 k s (a : Int) (b : Int) 6 nm (opOf (s.extract (a : Int).toNat (b : Int).toNat)) ⟨#[]⟩) v) :
    Ev (fun k => depotref22_one.l0 k s (a : Int) (b : Int) 1 nm 0 ⟨#[]⟩) v := by
  rw [← opTo_five] at h
  have h := sign_step s a b nm h1 h2 1 (by omega) (by omega) v (sign_step s a b nm h1 h2 2 (by omega) (by omega) v (sign_step s a b nm h1 h2 3 (by omega) (by omega) v (sign_step s a b nm h1 h2 4 (by omega) (by omega) v (sign_step s a b nm h1 h2 5 (by omega) (by omega) v h))))
  have e := opTo_zero (s.extract (a : Int).toNat (b : Int).toNat)
  rw [show (1 : Int) - 1 = 0 from rfl, e] at h
  exact h
end Go.Proofs.YtphabealejpfnaaDoor.Read
