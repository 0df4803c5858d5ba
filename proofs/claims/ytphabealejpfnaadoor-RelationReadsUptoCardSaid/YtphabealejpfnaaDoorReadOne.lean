/-
  Plain Lean: one relation, as the program's reader takes it and as the reference does.
-/
import Derived.Test.YtphabealejpfnaaDoorRead
import Derived.Laws.StructEq
set_option linter.unusedVariables false
set_option linter.unusedSimpArgs false
namespace Go.Proofs.YtphabealejpfnaaDoor.Read
open Go.RowKit Go.Proofs.YtphabealejpfnaaDoor.R Go.Proofs.YtphabealejpfnaaDoorW.PrintWords Go.Proofs.YtphabealejpfnaaDoorW.PrintLast Go.Proofs.YtphabealejpfnaaDoor.Ver

theorem toList_nil (a : ByteArray) : a.toList = [] ↔ a.size = 0 := by
  rw [ByteArray.toList_eq]
  obtain ⟨⟨x⟩⟩ := a
  show x = [] ↔ x.length = 0
  exact List.length_eq_zero_iff.symm
theorem ext_nil (s : ByteArray) (i e : Nat) (h1 : i ≤ e) (h2 : e ≤ s.size) : (s.extract (i : Int).toNat (e : Int).toNat).toList = [] ↔ e = i := by
  rw [toList_nil, ext_size s i e h1 h2]
  omega
/-- Past a piece, and the gaps behind it. -/
theorem pass_ev (s : ByteArray) (hs : s.size ≤ 140737488351232) (i n : Nat) (h : i + n ≤ s.size) : ∃ e : Nat, i + n ≤ e ∧ e ≤ s.size ∧ Ev (fun k => relation_reader_pass.f k s (i : Int) (n : Int)) (s, (e : Int)) ∧ Ev (fun k => depotref22_behind.f k s ((i + n : Nat) : Int)) (e : Int) := by
  obtain ⟨e, h1, h2, h3, h4⟩ := gaps_ev s hs (s.size - (i + n)) (i + n) (by omega)
  refine ⟨e, h1, h2, ?_, h4⟩
  unfold relation_reader_pass.f
  have ew : wrap64 ((i : Int) + (n : Int)) = ((i + n : Nat) : Int) := by rw [wrap_id (by omega) (by omega)]; omega
  simp only [ew]
  exact Ev.bind h3 (Ev.now _)
/-- Takes a byte that stands there, and the gaps behind it. -/
theorem takes_yes (s : ByteArray) (hs : s.size ≤ 140737488351232) (i : Nat) (c : Int) (h : i < s.size) (hc : bt s i = c) : ∃ e : Nat, i < e ∧ e ≤ s.size ∧ Ev (fun k => relation_reader_takes.f k s (i : Int) c) (true, s, (e : Int)) ∧ Ev (fun k => depotref22_behind.f k s (wrap64 ((i : Int) + 1))) (e : Int) := by
  obtain ⟨e, h1, h2, h3, h4⟩ := pass_ev s hs i 1 (by omega)
  refine ⟨e, by omega, h2, ?_, ?_⟩
  · unfold relation_reader_takes.f
    simp only [if_neg (show ¬ (i : Int) = s.size by omega), if_pos (show (0 : Int) ≤ i by omega), if_pos (show (i : Int) < s.size by omega), if_pos hc]
    exact Ev.bind h3 (Ev.now _)
  · have ew : wrap64 ((i : Int) + 1) = ((i + 1 : Nat) : Int) := by rw [wrap_id (by omega) (by omega)]; omega
    rw [ew]
    exact h4
theorem takes_no (s : ByteArray) (i : Nat) (c : Int) (hi : i ≤ s.size) (h : i = s.size ∨ ¬ bt s i = c) : Ev (fun k => relation_reader_takes.f k s (i : Int) c) (false, s, (i : Int)) := by
  unfold relation_reader_takes.f
  by_cases he : i = s.size
  · simp only [if_pos (show (i : Int) = s.size by omega)]
    exact Ev.now _
  · have hb : ¬ bt s i = c := h.resolve_left he
    simp only [if_neg (show ¬ (i : Int) = s.size by omega), if_pos (show (0 : Int) ≤ i by omega), if_pos (show (i : Int) < s.size by omega), if_neg hb]
    exact Ev.now _

/-- The relation that begins at a place: the program's answer and the reference's, and where both go on. -/
theorem one_ev (s : ByteArray) (hs : s.size ≤ 140737488351232) (i : Nat) (hi : i ≤ s.size) : ∃ (r1 : ByteArray) (r2 : Int) (r3 : ByteArray) (er : Int) (e : Nat), i ≤ e ∧ e ≤ s.size ∧ (er = 0 → i < e) ∧
    Ev (fun k => relation_reader_relation.f k s (i : Int)) (r1, r2, r3, er, s, (e : Int)) ∧ Ev (fun k => depotref22_one.f k s (i : Int)) (r1, r2, r3, er, (e : Int)) := by
  obtain ⟨w, hw1, hw2, hwp, hwr⟩ := word_ev s i hs (s.size - i) i (by omega) (Nat.le_refl _)
  have hwn := ext_nil s i w hw1 hw2
  have hws := ext_size s i w hw1 hw2
  unfold relation_reader_relation.f depotref22_one.f
  by_cases e1 : w = i
  · refine ⟨⟨#[]⟩, 0, ⟨#[]⟩, 220, i, Nat.le_refl _, hi, fun h => absurd h (by decide), ?_, ?_⟩
    · refine Ev.bind hwp ?_
      simp only [if_pos (hwn.2 e1)]
      exact Ev.now _
    · refine Ev.bind hwr ?_
      simp only [if_pos (show (w : Int) = i by omega)]
      exact Ev.now _
  have ne1 : ¬ (w : Int) = i := by omega
  have nn1 : ¬ (s.extract (i : Int).toNat (w : Int).toNat).toList = [] := fun h => e1 (hwn.1 h)
  obtain ⟨nb, hnp, hnr⟩ := names_ev (s.extract (i : Int).toNat (w : Int).toNat) (by rw [hws]; omega)
  cases nb with
  | false =>
    refine ⟨⟨#[]⟩, 0, ⟨#[]⟩, 230, i, Nat.le_refl _, hi, fun h => absurd h (by decide), ?_, ?_⟩
    · refine Ev.bind hwp ?_
      simp only [if_neg nn1]
      refine Ev.bind hnp ?_
      simp only [if_true]
      exact Ev.now _
    · refine Ev.bind hwr ?_
      simp only [if_neg ne1, if_pos (show (0 : Int) ≤ i by omega), if_pos (show (i : Int) ≤ w by omega), if_pos (show (w : Int) ≤ s.size by omega)]
      refine Ev.bind hnr ?_
      simp only [Bool.false_eq_true, if_false]
      exact Ev.now _
  | true =>
  obtain ⟨p, hp1, hp2, hpp, hpr⟩ := pass_ev s hs i (w - i) (by omega)
  have ew : ((i + (w - i) : Nat) : Int) = (w : Int) := by omega
  rw [ew] at hpr
  generalize hnm : s.extract (i : Int).toNat (w : Int).toNat = nm at *
  have hP : ∀ {v}, Ev (fun k => (relation_reader_takes.f k s (p : Int) 40).bind fun x3 => if x3.1 = false then some (nm, 0, ⟨#[]⟩, 0, x3.2.1, x3.2.2) else
      (relation_reader_run.f k x3.2.1 x3.2.2 true).bind fun x4 => if opOf x4.1 = 0 then some (noRel 220 x4.2.1 x4.2.2) else
      (relation_reader_pass.f k x4.2.1 x4.2.2 x4.1.size).bind fun x5 => (relation_reader_run.f k x5.1 x5.2 false).bind fun x6 => if x6.1.toList = [] then some (noRel 220 x6.2.1 x6.2.2) else
      (version_Legal.f k x6.1).bind fun lg => if lg = false then some (noRel 200 x6.2.1 x6.2.2) else
      (relation_reader_pass.f k x6.2.1 x6.2.2 x6.1.size).bind fun x7 => (relation_reader_takes.f k x7.1 x7.2 41).bind fun x8 => if x8.1 = false then some (noRel 220 x8.2.1 x8.2.2) else some (nm, opOf x4.1, x6.1, 0, x8.2.1, x8.2.2)) v → Ev (fun k => relation_reader_relation.f k s (i : Int)) v := by
    intro v h
    unfold relation_reader_relation.f
    refine Ev.bind hwp ?_
    simp only [if_neg nn1]
    refine Ev.bind hnp ?_
    simp only [Bool.true_eq_false, if_false, hws]
    exact Ev.bind hpp h
  have hR : ∀ {b : Bool} {v}, (b = true ↔ (p = s.size ∨ ¬ bt s p = 40)) → Ev (fun k => depotref22_one.j0 k s (p : Int) b nm 0 ⟨#[]⟩) v → Ev (fun k => depotref22_one.f k s (i : Int)) v := by
    intro b v hb h
    unfold depotref22_one.f
    refine Ev.bind hwr ?_
    simp only [if_neg ne1, if_pos (show (0 : Int) ≤ i by omega), if_pos (show (i : Int) ≤ w by omega), if_pos (show (w : Int) ≤ s.size by omega), hnm]
    refine Ev.bind hnr ?_
    simp only [if_true]
    refine Ev.bind hpr ?_
    by_cases he : p = s.size
    · have : b = true := hb.2 (.inl he)
      subst this
      simp only [if_pos (show (p : Int) = s.size by omega)]
      exact h
    · have e2 : (bt s (p : Int) != 40) = b := by
        by_cases h4 : bt s (p : Int) = 40
        · have : b = false := by
            cases b with
            | false => rfl
            | true => exact absurd (hb.1 rfl) (by rintro (q | q); exact he q; exact q h4)
          rw [this, h4]; rfl
        · rw [hb.2 (.inr h4)]
          exact bne_iff_ne.2 h4
      simp only [if_neg (show ¬ (p : Int) = s.size by omega), if_pos (show (0 : Int) ≤ p by omega), if_pos (show (p : Int) < s.size by omega), e2]
      exact h
  clear hwp hwr hnp hnr hpp hpr
  by_cases hA : p = s.size ∨ ¬ bt s (p : Int) = 40
  · refine ⟨nm, 0, ⟨#[]⟩, 0, p, by omega, hp2, fun _ => by omega, hP ?_, hR (b := true) (by simpa using hA) ?_⟩
    · refine Ev.bind (takes_no s p 40 hp2 hA) ?_
      simp only [if_true]
      exact Ev.now _
    · refine Ev.step (f := fun _ => some (nm, 0, ⟨#[]⟩, 0, (p : Int))) (fun k => ?_) (Ev.now _)
      simp only [depotref22_one.j0, if_true]
  have hplt : p < s.size := by
    rcases Nat.lt_or_eq_of_le hp2 with h | h
    · exact h
    · exact absurd (.inl h) hA
  have hp40 : bt s (p : Int) = 40 := by
    by_cases h : bt s (p : Int) = 40
    · exact h
    · exact absurd (.inr h) hA
  obtain ⟨q, hq1, hq2, hqp, hqr⟩ := takes_yes s hs p 40 hplt hp40
  obtain ⟨m, hm1, hm2, hmp, hmr⟩ := sign_ev s q hs (s.size - q) q (by omega) (Nat.le_refl _)
  have hms := ext_size s q m hm1 hm2
  have hR2 : ∀ {v}, Ev (fun k => depotref22_one.l0 k s (q : Int) (m : Int) 6 nm (opOf (s.extract (q : Int).toNat (m : Int).toNat)) ⟨#[]⟩) v → Ev (fun k => depotref22_one.f k s (i : Int)) v := by
    intro v h
    refine hR (b := false) ⟨fun h => absurd h (by decide), fun h => absurd h hA⟩ ?_
    refine Ev.step (f := fun k => (depotref22_behind.f k s (wrap64 ((p : Int) + 1))).bind fun t166 => (depotref22_sign.f k s t166).bind fun t167 => depotref22_one.l0 k s t166 t167 1 nm 0 ⟨#[]⟩) (fun k => ?_) ?_
    · simp only [depotref22_one.j0, Bool.false_eq_true, if_false]
    · refine Ev.bind hqr ?_
      refine Ev.bind hmr ?_
      exact signs_ev s q m nm hm1 hm2 v h
  generalize hop : s.extract (q : Int).toNat (m : Int).toNat = op at *
  by_cases ho : opOf op = 0
  · refine ⟨⟨#[]⟩, 0, ⟨#[]⟩, 220, q, by omega, hq2, fun h => absurd h (by decide), hP ?_, hR2 ?_⟩
    · refine Ev.bind hqp ?_
      simp only [Bool.true_eq_false, if_false]
      refine Ev.bind hmp ?_
      simp only [if_pos ho]
      exact Ev.now _
    · refine Ev.step (f := fun _ => some (⟨#[]⟩, 0, ⟨#[]⟩, 220, (q : Int))) (fun k => ?_) (Ev.now _)
      simp only [depotref22_one.l0, if_neg (show ¬ (6 : Int) ≤ 5 by omega), if_pos ho]
  obtain ⟨u, hu1, hu2, hup, hur⟩ := pass_ev s hs q (m - q) (by omega)
  have ew2 : ((q + (m - q) : Nat) : Int) = (m : Int) := by omega
  rw [ew2] at hur
  obtain ⟨x, hx1, hx2, hxp, hxr⟩ := word_ev s u hs (s.size - u) u (by omega) (Nat.le_refl _)
  have hxn := ext_nil s u x hx1 hx2
  have hxs := ext_size s u x hx1 hx2
  have hP3 : ∀ {v}, Ev (fun k => if (s.extract (u : Int).toNat (x : Int).toNat).toList = [] then some (noRel 220 s (u : Int)) else
      (version_Legal.f k (s.extract (u : Int).toNat (x : Int).toNat)).bind fun lg => if lg = false then some (noRel 200 s (u : Int)) else
      (relation_reader_pass.f k s (u : Int) ((x - u : Nat) : Int)).bind fun x7 => (relation_reader_takes.f k x7.1 x7.2 41).bind fun x8 => if x8.1 = false then some (noRel 220 x8.2.1 x8.2.2) else some (nm, opOf op, s.extract (u : Int).toNat (x : Int).toNat, 0, x8.2.1, x8.2.2)) v → Ev (fun k => relation_reader_relation.f k s (i : Int)) v := by
    intro v h
    refine hP ?_
    refine Ev.bind hqp ?_
    simp only [Bool.true_eq_false, if_false]
    refine Ev.bind hmp ?_
    simp only [if_neg ho, hms]
    refine Ev.bind hup ?_
    refine Ev.bind hxp ?_
    simp only [hxs]
    exact h
  have hR3 : ∀ {v}, Ev (fun k => if (x : Int) = u then some ((⟨#[]⟩ : ByteArray), (0 : Int), (⟨#[]⟩ : ByteArray), (220 : Int), (u : Int)) else
      (depotref20_Legal.f k (s.extract (u : Int).toNat (x : Int).toNat)).bind fun t171 => if t171 = true then (depotref22_behind.f k s (x : Int)).bind fun t172 => (if t172 = (s.size : Int) then (some ((⟨#[]⟩ : ByteArray), 0, (⟨#[]⟩ : ByteArray), 220, t172)) else (if 0 ≤ t172 then (if t172 < (s.size : Int) then (if (bt s t172) = 41 then ((depotref22_behind.f k s (wrap64 (t172 + 1))).bind fun t173 => (some (nm, opOf op, s.extract (u : Int).toNat (x : Int).toNat, 0, t173))) else (some ((⟨#[]⟩ : ByteArray), 0, (⟨#[]⟩ : ByteArray), 220, t172))) else (none)) else (none))) else some ((⟨#[]⟩ : ByteArray), 0, (⟨#[]⟩ : ByteArray), 200, (u : Int))) v → Ev (fun k => depotref22_one.f k s (i : Int)) v := by
    intro v h
    refine hR2 ?_
    refine Ev.step (f := fun k => (depotref22_behind.f k s (m : Int)).bind fun t169 => ((depotref22_word.f k s t169).bind fun t170 => (if t170 = t169 then (some ((⟨#[]⟩ : ByteArray), 0, (⟨#[]⟩ : ByteArray), 220, t169)) else (if 0 ≤ t169 then (if t169 ≤ t170 then (if t170 ≤ (s.size : Int) then ((depotref20_Legal.f k (s.extract (t169 : Int).toNat (t170 : Int).toNat)).bind fun t171 => (if t171 = true then ((depotref22_behind.f k s t170).bind fun t172 => (if t172 = (s.size : Int) then (some ((⟨#[]⟩ : ByteArray), 0, (⟨#[]⟩ : ByteArray), 220, t172)) else (if 0 ≤ t172 then (if t172 < (s.size : Int) then (if (bt s t172) = 41 then ((depotref22_behind.f k s (wrap64 (t172 + 1))).bind fun t173 => (some (nm, opOf op, s.extract (t169 : Int).toNat (t170 : Int).toNat, 0, t173))) else (some ((⟨#[]⟩ : ByteArray), 0, (⟨#[]⟩ : ByteArray), 220, t172))) else (none)) else (none)))) else (some ((⟨#[]⟩ : ByteArray), 0, (⟨#[]⟩ : ByteArray), 200, t169)))) else (none)) else (none)) else (none))))) (fun k => ?_) ?_
    · simp only [depotref22_one.l0, if_neg (show ¬ (6 : Int) ≤ 5 by omega), if_neg ho]
    · refine Ev.bind hur ?_
      refine Ev.bind hxr ?_
      simp only [if_pos (show (0 : Int) ≤ u by omega), if_pos (show (u : Int) ≤ x by omega), if_pos (show (x : Int) ≤ s.size by omega)]
      exact h
  clear hP hR hR2
  by_cases hxu : x = u
  · refine ⟨⟨#[]⟩, 0, ⟨#[]⟩, 220, u, by omega, hu2, fun h => absurd h (by decide), hP3 ?_, hR3 ?_⟩
    · simp only [if_pos (hxn.2 hxu)]
      exact Ev.now _
    · simp only [if_pos (show (x : Int) = u by omega)]
      exact Ev.now _
  have nn2 : ¬ (s.extract (u : Int).toNat (x : Int).toNat).toList = [] := fun h => hxu (hxn.1 h)
  have ne2 : ¬ (x : Int) = u := by omega
  have hL1 := plegal_ev (s.extract (u : Int).toNat (x : Int).toNat) (by rw [hxs]; omega)
  have hL2 := legal_ev (s.extract (u : Int).toNat (x : Int).toNat) (by rw [hxs]; omega)
  simp only [if_neg nn2] at hP3
  simp only [if_neg ne2] at hR3
  generalize s.extract (u : Int).toNat (x : Int).toNat = ve at *
  cases hv : okS ve with
  | false =>
    rw [hv] at hL1 hL2
    refine ⟨⟨#[]⟩, 0, ⟨#[]⟩, 200, u, by omega, hu2, fun h => absurd h (by decide), hP3 ?_, hR3 ?_⟩
    · refine Ev.bind hL1 ?_
      simp only [if_true]
      exact Ev.now _
    · refine Ev.bind hL2 ?_
      simp only [Bool.false_eq_true, if_false]
      exact Ev.now _
  | true =>
  rw [hv] at hL1 hL2
  obtain ⟨y, hy1, hy2, hyp, hyr⟩ := pass_ev s hs u (x - u) (by omega)
  have ew3 : ((u + (x - u) : Nat) : Int) = (x : Int) := by omega
  rw [ew3] at hyr
  by_cases hB : y = s.size ∨ ¬ bt s (y : Int) = 41
  · refine ⟨⟨#[]⟩, 0, ⟨#[]⟩, 220, y, by omega, hy2, fun h => absurd h (by decide), hP3 ?_, hR3 ?_⟩
    · refine Ev.bind hL1 ?_
      simp only [Bool.true_eq_false, if_false]
      refine Ev.bind hyp ?_
      refine Ev.bind (takes_no s y 41 hy2 hB) ?_
      simp only [if_true]
      exact Ev.now _
    · refine Ev.bind hL2 ?_
      simp only [if_true]
      refine Ev.bind hyr ?_
      by_cases he : y = s.size
      · simp only [if_pos (show (y : Int) = s.size by omega)]
        exact Ev.now _
      · simp only [if_neg (show ¬ (y : Int) = s.size by omega), if_pos (show (0 : Int) ≤ y by omega), if_pos (show (y : Int) < s.size by omega), if_neg (hB.resolve_left he)]
        exact Ev.now _
  have hylt : y < s.size := by
    rcases Nat.lt_or_eq_of_le hy2 with h | h
    · exact h
    · exact absurd (.inl h) hB
  have hy41 : bt s (y : Int) = 41 := by
    by_cases h : bt s (y : Int) = 41
    · exact h
    · exact absurd (.inr h) hB
  obtain ⟨z, hz1, hz2, hzp, hzr⟩ := takes_yes s hs y 41 hylt hy41
  refine ⟨nm, opOf op, ve, 0, z, by omega, hz2, fun _ => by omega, hP3 ?_, hR3 ?_⟩
  · refine Ev.bind hL1 ?_
    simp only [Bool.true_eq_false, if_false]
    refine Ev.bind hyp ?_
    refine Ev.bind hzp ?_
    simp only [Bool.true_eq_false, if_false]
    exact Ev.now _
  · refine Ev.bind hL2 ?_
    simp only [if_true]
    refine Ev.bind hyr ?_
    simp only [if_neg (show ¬ (y : Int) = s.size by omega), if_pos (show (0 : Int) ≤ y by omega), if_pos (show (y : Int) < s.size by omega), if_pos hy41]
    exact Ev.bind hzr (Ev.now _)
end Go.Proofs.YtphabealejpfnaaDoor.Read
