/-
  Plain Lean: lists of relations as a function on lists of bytes, and the program's read comes to it.
-/
import Derived.Test.YtphabealejpfnaaDoorVyModel
set_option linter.unusedVariables false
set_option linter.unusedSimpArgs false
namespace Go.Proofs.YtphabealejpfnaaDoor.Model
open Go.RowKit Go.Proofs.YtphabealejpfnaaDoor.V Go.Proofs.YtphabealejpfnaaDoorW.PrintWords Go.Proofs.YtphabealejpfnaaDoorW.PrintLast Go.Proofs.YtphabealejpfnaaDoor.Ver

/-! ### what a relation takes -/
theorem dg_le (l : B) : (dg l).length ≤ l.length := (List.dropWhile_sublist _).length_le
theorem dg_dg (l : B) : dg (dg l) = dg l := by
  unfold dg
  induction l with
  | nil => rfl
  | cons c l ih =>
    rw [List.dropWhile_cons]
    split
    · exact ih
    · rw [List.dropWhile_cons]; rw [if_neg ‹_›]
theorem tw_dw (p : UInt8 → Bool) (l : B) : (l.takeWhile p).length + (l.dropWhile p).length = l.length := by
  have := congrArg List.length (List.takeWhile_append_dropWhile (p := p) (l := l))
  rw [List.length_append] at this
  exact this
/-- Well shaped, as the program asks. -/
def formM (x : S23) : Bool := nameM x.f0.data.toList && (if x.f1 = 0 then x.f2.toList == ([] : List UInt8) else if (wordOf x.f1).toList = ([] : List UInt8) then false else okS x.f2)
def relSize (x : S23) : Nat := x.f0.size + x.f2.size
theorem word_op (m : ByteArray) (h : ¬ opOf m = 0) : wordOf (opOf m) = m := by
  have hm : m = ofL m.toList := by
    obtain ⟨⟨x⟩⟩ := m
    rw [ByteArray.toList_eq]; rfl
  obtain ⟨i1, i2, i3, i4, i5⟩ := opOf_iff m
  have hb := opOf_bd m
  have hc : opOf m = 1 ∨ opOf m = 2 ∨ opOf m = 3 ∨ opOf m = 4 ∨ opOf m = 5 := by omega
  rcases hc with e | e | e | e | e
  · rw [e, hm, i1.1 e]; rfl
  · rw [e, hm, i2.1 e]; rfl
  · rw [e, hm, i3.1 e]; rfl
  · rw [e, hm, i4.1 e]; rfl
  · rw [e, hm, i5.1 e]; rfl
theorem closeM_inr {x y : S23} {l r : B} (h : closeM x l = (.inr y, r)) : y = x ∧ r.length < l.length ∧ dg r = r := by
  unfold closeM at h
  split at h
  · simp at h
  · split at h
    · simp only [Prod.mk.injEq, Sum.inr.injEq] at h
      obtain ⟨rfl, rfl⟩ := h
      rename_i c r' _
      have := dg_le r'
      exact ⟨rfl, by simp only [List.length_cons]; omega, dg_dg _⟩
    · simp at h
theorem closeM_inl {x : S23} {e : Int} {l r : B} (h : closeM x l = (.inl e, r)) : e = 220 ∧ r.length ≤ l.length := by
  unfold closeM at h
  split at h
  · simp only [Prod.mk.injEq, Sum.inl.injEq] at h
    obtain ⟨rfl, rfl⟩ := h
    exact ⟨rfl, Nat.le_refl _⟩
  · split at h
    · simp at h
    · simp only [Prod.mk.injEq, Sum.inl.injEq] at h
      obtain ⟨rfl, rfl⟩ := h
      exact ⟨rfl, Nat.le_refl _⟩
theorem versM_inr {nm : B} {op : Int} {y : S23} {l r : B} (h : versM nm op l = (.inr y, r)) : y.f0 = ofL nm ∧ y.f1 = op ∧ okS y.f2 = true ∧ y.f2.size + r.length < l.length ∧ dg r = r := by
  unfold versM at h
  split at h
  · simp at h
  · split at h
    · simp at h
    · rename_i h1 h2
      obtain ⟨rfl, h3, h4⟩ := closeM_inr h
      refine ⟨rfl, rfl, by simpa using h2, ?_, h4⟩
      have a1 := tw_dw wrdB l
      have a2 := dg_le (l.dropWhile wrdB)
      simp only [ofL_size]
      omega
theorem versM_inl {nm : B} {op : Int} {e : Int} {l r : B} (h : versM nm op l = (.inl e, r)) : (e = 220 ∨ e = 200) ∧ r.length ≤ l.length := by
  unfold versM at h
  split at h
  · simp only [Prod.mk.injEq, Sum.inl.injEq] at h
    obtain ⟨rfl, rfl⟩ := h
    exact ⟨.inl rfl, Nat.le_refl _⟩
  · split at h
    · simp only [Prod.mk.injEq, Sum.inl.injEq] at h
      obtain ⟨rfl, rfl⟩ := h
      exact ⟨.inr rfl, Nat.le_refl _⟩
    · obtain ⟨rfl, h3⟩ := closeM_inl h
      have a1 := tw_dw wrdB l
      have a2 := dg_le (l.dropWhile wrdB)
      exact ⟨.inl rfl, by omega⟩
theorem operM_inr {nm : B} {y : S23} {l r : B} (h : operM nm l = (.inr y, r)) : y.f0 = ofL nm ∧ ¬ y.f1 = 0 ∧ ¬ (wordOf y.f1).toList = [] ∧ okS y.f2 = true ∧ y.f2.size + r.length < l.length ∧ dg r = r := by
  unfold operM at h
  split at h
  · simp at h
  · rename_i h1
    obtain ⟨a, b, c, d, e⟩ := versM_inr h
    have a1 := tw_dw mrkB l
    have a2 := dg_le (l.dropWhile mrkB)
    refine ⟨a, by rw [b]; exact h1, ?_, c, by omega, e⟩
    rw [b, word_op _ h1, ofL_list]
    intro q
    rw [q] at h1
    exact h1 (by unfold opOf; simp [ofL_list])
theorem operM_inl {nm : B} {e : Int} {l r : B} (h : operM nm l = (.inl e, r)) : (e = 220 ∨ e = 200) ∧ r.length ≤ l.length := by
  unfold operM at h
  split at h
  · simp only [Prod.mk.injEq, Sum.inl.injEq] at h
    obtain ⟨rfl, rfl⟩ := h
    exact ⟨.inl rfl, Nat.le_refl _⟩
  · obtain ⟨h1, h3⟩ := versM_inl h
    have a1 := tw_dw mrkB l
    have a2 := dg_le (l.dropWhile mrkB)
    exact ⟨h1, by omega⟩
theorem openM_inr {nm : B} {y : S23} {l r : B} (h : openM nm l = (.inr y, r)) (hd : dg l = l) : y.f0 = ofL nm ∧ ((y.f1 = 0 ∧ y.f2 = ⟨#[]⟩) ∨ (¬ y.f1 = 0 ∧ ¬ (wordOf y.f1).toList = [] ∧ okS y.f2 = true)) ∧ y.f2.size + r.length ≤ l.length ∧ dg r = r := by
  unfold openM at h
  split at h
  · simp only [Prod.mk.injEq, Sum.inr.injEq] at h
    obtain ⟨rfl, rfl⟩ := h
    exact ⟨rfl, .inl ⟨rfl, rfl⟩, Nat.le_refl _, rfl⟩
  · split at h
    · obtain ⟨a, b, c, d, e, f⟩ := operM_inr h
      rename_i c' r' _
      have := dg_le r'
      exact ⟨a, .inr ⟨b, c, d⟩, by simp only [List.length_cons]; omega, f⟩
    · simp only [Prod.mk.injEq, Sum.inr.injEq] at h
      obtain ⟨rfl, rfl⟩ := h
      exact ⟨rfl, .inl ⟨rfl, rfl⟩, by show 0 + _ ≤ _; omega, hd⟩
theorem openM_inl {nm : B} {e : Int} {l r : B} (h : openM nm l = (.inl e, r)) : (e = 220 ∨ e = 200) ∧ r.length ≤ l.length := by
  unfold openM at h
  split at h
  · simp at h
  · split at h
    · obtain ⟨a, b⟩ := operM_inl h
      rename_i c' r' _
      have := dg_le r'
      exact ⟨a, by simp only [List.length_cons]; omega⟩
    · simp at h
/-- A relation that is read is well shaped; it takes its parts' bytes, one at least; behind it no gap stands. -/
theorem relM_inr {y : S23} {l r : B} (h : relM l = (.inr y, r)) : formM y = true ∧ 1 ≤ y.f0.size ∧ relSize y + r.length ≤ l.length ∧ dg r = r := by
  unfold relM at h
  split at h
  · simp at h
  · split at h
    · simp at h
    · rename_i h1 h2
      obtain ⟨a, b, c, d⟩ := openM_inr h (dg_dg _)
      have a1 := tw_dw wrdB l
      have a2 := dg_le (l.dropWhile wrdB)
      have hn : nameM y.f0.data.toList = true := by rw [a, toL_ofL]; simpa using h2
      have hz : 1 ≤ (l.takeWhile wrdB).length := by
        rcases Nat.eq_zero_or_pos (l.takeWhile wrdB).length with q | q
        · exact absurd (List.eq_nil_of_length_eq_zero q) h1
        · exact q
      refine ⟨?_, by rw [a, ofL_size]; exact hz, ?_, d⟩
      · unfold formM
        rw [hn]
        rcases b with ⟨b1, b2⟩ | ⟨b1, b2, b3⟩
        · rw [if_pos b1, b2]
          show (true && ((ofL []).toList == [])) = true
          rw [ofL_list]; rfl
        · rw [if_neg b1, if_neg b2, b3]; rfl
      · unfold relSize
        rw [a, ofL_size]
        omega
theorem relM_inl {e : Int} {l r : B} (h : relM l = (.inl e, r)) : (e = 220 ∨ e = 230 ∨ e = 200) ∧ r.length ≤ l.length := by
  unfold relM at h
  split at h
  · simp only [Prod.mk.injEq, Sum.inl.injEq] at h
    obtain ⟨rfl, rfl⟩ := h
    exact ⟨.inl rfl, Nat.le_refl _⟩
  · split at h
    · simp only [Prod.mk.injEq, Sum.inl.injEq] at h
      obtain ⟨rfl, rfl⟩ := h
      exact ⟨.inr (.inl rfl), Nat.le_refl _⟩
    · obtain ⟨h1, h3⟩ := openM_inl h
      have a1 := tw_dw wrdB l
      have a2 := dg_le (l.dropWhile wrdB)
      exact ⟨by rcases h1 with h1 | h1 <;> simp [h1], by omega⟩

/-! ### lists -/
/-- From within a list on (fuel: more than the text's bytes). -/
def listsM (bars : Bool) : Nat → List (List S23) → List S23 → B → List (List S23) × Int × B
  | 0, _, _, l => ([], 0, l)
  | d + 1, x8, x10, l => match relM l with
    | (.inl e, r) => ([], e, r)
    | (.inr x, []) => (x8 ++ [x10 ++ [x]], 0, [])
    | (.inr x, c :: r) =>
      if c = 124 ∧ bars = true then listsM bars d x8 (x10 ++ [x]) (dg r)
      else if c = 44 then listsM bars d (x8 ++ [x10 ++ [x]]) [] (dg r)
      else ([], 220, c :: r)
def readM (bars : Bool) (l : B) : List (List S23) × Int × B :=
  if dg l = [] then ([], 0, []) else listsM bars ((dg l).length + 1) [] [] (dg l)
/-- The place that is told: 0 where all went well. -/
def placeM (s : ByteArray) (R : List (List S23) × Int × B) : List (List S23) × Int × Int := (R.1, R.2.1, if R.2.1 = 0 then 0 else ((s.size - R.2.2.length : Nat) : Int))

theorem place_at {s : ByteArray} {e : Nat} {r : B} (he : e ≤ s.size) (h : at_ s e = r) : s.size - r.length = e := by
  rw [← h, at_len]
  omega
theorem lists_ev (s : ByteArray) (hs : s.size ≤ 140737488351232) (hb : s.size ≤ 3000000000000) (bars : Bool) : ∀ (d i : Nat), s.size - i < d → i ≤ s.size → ∀ (x8 : List (List S23)) (x10 : List S23), x8.length + x10.length ≤ i →
    Ev (fun k => relation_read.l1 k s bars x8 x10 true s (i : Int)) (placeM s (listsM bars d x8 x10 (at_ s i))) := by
  intro d
  induction d with
  | zero => intro i hd; exact absurd hd (by omega)
  | succ d ih =>
    intro i hd hi x8 x10 hlen
    obtain ⟨e, he1, he2, he3, hp⟩ := rel_ev s hs i hi
    have hP : ∀ {v}, Ev (fun k => ((relation_reader_relation.f k s (i : Int)).bind fun bt126 => (if bt126.2.2.2.1 = 0 then (if x10.length < 3518437208883 then ((some (x10 ++ [(⟨bt126.1, bt126.2.1, bt126.2.2.1⟩ : S23)] : List (S23))).bind fun y133 => (if bars = true then ((relation_reader_takes.f k bt126.2.2.2.2.1 bt126.2.2.2.2.2 124).bind fun bt136 => (relation_read.l1 k s bars x8 y133 bt136.1 bt136.2.1 bt136.2.2)) else (relation_read.l1 k s bars x8 y133 false bt126.2.2.2.2.1 bt126.2.2.2.2.2))) else (none)) else (some (([] : List (List (S23))), bt126.2.2.2.1, bt126.2.2.2.2.2))))) v → Ev (fun k => relation_read.l1 k s bars x8 x10 true s (i : Int)) v := by
      intro v h
      refine Ev.step (f := _) (fun k => ?_) h
      simp only [relation_read.l1, if_true]
    rw [listsM]
    cases hR : relM (at_ s i) with
    | mk q r =>
    rw [hR] at hp he3
    cases q with
    | inl er =>
      have hne : ¬ er = 0 := by
        rcases (relM_inl hR).1 with h | h | h <;> omega
      refine hP (Ev.bind hp ?_)
      simp only [relOut, noRel, placeM, hne, if_false]
      rw [place_at he2 he3]
      exact Ev.now _
    | inr x =>
      obtain ⟨f1, f2, f3, f4⟩ := relM_inr hR
      have hie : i < e := by
        have := at_len s i
        have h2 := at_len s e
        simp only at he3
        rw [he3] at h2
        unfold relSize at f3
        omega
      have hP2 : ∀ {v}, Ev (fun k => if bars = true then ((relation_reader_takes.f k s (e : Int) 124).bind fun bt136 => (relation_read.l1 k s bars x8 (x10 ++ [x]) bt136.1 bt136.2.1 bt136.2.2)) else (relation_read.l1 k s bars x8 (x10 ++ [x]) false s (e : Int))) v → Ev (fun k => relation_read.l1 k s bars x8 x10 true s (i : Int)) v := by
        intro v h
        refine hP (Ev.bind hp ?_)
        simp only [relOut, if_true, if_pos (show x10.length < 3518437208883 by omega), Option.bind_some]
        exact h
      have hyl : (x10 ++ [x]).length = x10.length + 1 := by simp
      have hlen8 : (x8 ++ [x10 ++ [x]]).length = x8.length + 1 := by simp
      have hP3 : ∀ {v}, Ev (fun k => relation_read.l1 k s bars x8 (x10 ++ [x]) false s (e : Int)) v → (bars = true → e = s.size ∨ ¬ bt s (e : Int) = 124) → Ev (fun k => relation_read.l1 k s bars x8 x10 true s (i : Int)) v := by
        intro v h hno
        refine hP2 ?_
        by_cases hbars : bars = true
        · simp only [if_pos hbars]
          exact Ev.bind (takes_no s e 124 he2 (hno hbars)) h
        · simp only [if_neg hbars]
          exact h
      have hP4 : ∀ {v}, Ev (fun k => (relation_reader_takes.f k s (e : Int) 44).bind fun bt123 => (relation_read.l0 k s bars (x8 ++ [x10 ++ [x]]) bt123.1 bt123.2.1 bt123.2.2)) v → (bars = true → e = s.size ∨ ¬ bt s (e : Int) = 124) → Ev (fun k => relation_read.l1 k s bars x8 x10 true s (i : Int)) v := by
        intro v h hno
        refine hP3 (Ev.step (f := _) (fun k => ?_) h) hno
        simp only [relation_read.l1, Bool.false_eq_true, if_false, if_pos (show x8.length < 5864062014805 by omega)]
      cases r with
      | nil =>
        have hes := at_nil he2 he3
        simp only [placeM, if_true]
        refine hP4 ?_ (fun _ => .inl hes)
        refine Ev.bind (takes_no s e 44 he2 (.inl hes)) ?_
        refine Ev.step (f := fun _ => some (x8 ++ [x10 ++ [x]], 0, 0)) (fun k => ?_) (Ev.now _)
        simp only [relation_read.l0, Bool.false_eq_true, if_false, if_neg (show ¬ (e : Int) < s.size by omega)]
      | cons c r =>
        obtain ⟨h1, h2, h3⟩ := at_cons he2 he3
        simp only
        by_cases hC : c = 124 ∧ bars = true
        · rw [if_pos hC]
          obtain ⟨hc, hbars⟩ := hC
          subst hc
          obtain ⟨f, hf1, hf2, hf3, hf4⟩ := takes_yes s hs e 124 h1 h2
          rw [h3] at hf3
          refine hP2 ?_
          simp only [if_pos hbars]
          refine Ev.bind hf4 ?_
          rw [← hf3]
          exact ih f (by omega) hf2 x8 (x10 ++ [x]) (by omega)
        · have hno : bars = true → e = s.size ∨ ¬ bt s (e : Int) = 124 := by
            intro hbars
            right
            rw [h2]
            exact fun q => hC ⟨toNat_inj.1 (show (c.toNat : Int) = ((124 : UInt8).toNat : Int) from q), hbars⟩
          rw [if_neg hC]
          by_cases hc : c = 44
          · rw [if_pos hc]
            subst hc
            obtain ⟨f, hf1, hf2, hf3, hf4⟩ := takes_yes s hs e 44 h1 h2
            rw [h3] at hf3
            refine hP4 ?_ hno
            refine Ev.bind hf4 ?_
            rw [← hf3]
            refine Ev.step (f := _) (fun k => ?_) (ih f (by omega) hf2 (x8 ++ [x10 ++ [x]]) [] (by rw [hlen8]; simp only [List.length_nil]; omega))
            simp only [relation_read.l0, if_true]
          · rw [if_neg hc]
            have hpl := place_at he2 he3
            simp only [placeM]
            rw [hpl]
            refine hP4 ?_ hno
            refine Ev.bind (takes_no s e 44 he2 (.inr ?_)) ?_
            · rw [h2]
              exact fun q => hc (toNat_inj.1 (show (c.toNat : Int) = ((44 : UInt8).toNat : Int) from q))
            · refine Ev.step (f := fun _ => some ([], 220, (e : Int))) (fun k => ?_) (Ev.now _)
              simp only [relation_read.l0, Bool.false_eq_true, if_false, if_pos (show (e : Int) < s.size by omega)]
theorem read_ev (s : ByteArray) (hb : s.size ≤ 3000000000000) (bars : Bool) : Ev (fun k => relation_read.f k s bars) (placeM s (readM bars s.data.toList)) := by
  have hs : s.size ≤ 140737488351232 := by omega
  obtain ⟨i, h1, h2, h3, hp⟩ := gaps_ev s hs s.size 0 (by omega)
  rw [at_zero] at h3
  unfold relation_read.f readM
  rw [← h3]
  refine Ev.bind hp ?_
  by_cases he : i = s.size
  · subst he
    simp only [if_true, at_end, placeM]
    exact Ev.now _
  · have hne : ¬ at_ s i = [] := fun q => he (at_nil h2 q)
    simp only [if_neg (show ¬ (i : Int) = s.size by omega), if_neg hne]
    refine Ev.step (f := _) (fun k => ?_) (lists_ev s hs hb bars ((at_ s i).length + 1) i (by rw [at_len]; omega) h2 [] [] (by simp))
    simp only [relation_read.l0, if_true]
end Go.Proofs.YtphabealejpfnaaDoor.Model
