/- RequestReads (P24.2): for every text of at most 2^20 bytes, request.Read answers as the document says: the request, or the first fault and its line. -/
import Derived.Laws.StructEq
import Derived.KernelRfl
import Derived.Below
import Derived.SizedLaws
import Derived.ShutString
import Derived.ChangeOld
import Derived.Carry
import Derived.Test.YtmocooihkobdjaaDoorQk1
import Derived.Test.YtmocooihkobdjaaDoorQk5
section
set_option linter.unusedVariables false
set_option linter.unusedSimpArgs false
namespace Go.Proofs.YtmocooihkobdjaaDoor.Read
open Go.RowKit Go.Proofs.YtmocooihkobdjaaDoor.Q Go.Proofs.YtmocooihkobdjaaDoorW.PrintWords Go.Proofs.YtmocooihkobdjaaDoorW.PrintLast Go.Proofs.YtmocooihkobdjaaDoor.Ver
theorem toList_nil (a : ByteArray) : a.toList = [] ↔ a.size = 0 := by
  rw [ByteArray.toList_eq]
  obtain ⟨⟨x⟩⟩ := a
  show x = [] ↔ x.length = 0
  exact List.length_eq_zero_iff.symm
theorem ext_nil (s : ByteArray) (i e : Nat) (h1 : i ≤ e) (h2 : e ≤ s.size) : (s.extract (i : Int).toNat (e : Int).toNat).toList = [] ↔ e = i := by
  rw [toList_nil, ext_size s i e h1 h2]
  omega
theorem pass_ev (s : ByteArray) (hs : s.size ≤ 140737488351232) (i n : Nat) (h : i + n ≤ s.size) : ∃ e : Nat, i + n ≤ e ∧ e ≤ s.size ∧ Ev (fun k => relation_reader_pass.f k s (i : Int) (n : Int)) (s, (e : Int)) ∧ Ev (fun k => depotref22_behind.f k s ((i + n : Nat) : Int)) (e : Int) := by
  obtain ⟨e, h1, h2, h3, h4⟩ := gaps_ev s hs (s.size - (i + n)) (i + n) (by omega)
  refine ⟨e, h1, h2, ?_, h4⟩
  unfold relation_reader_pass.f
  have ew : wrap64 ((i : Int) + (n : Int)) = ((i + n : Nat) : Int) := by rw [wrap_id (by omega) (by omega)]; omega
  simp only [ew]
  exact Ev.bind h3 (Ev.now _)
theorem takes_yes (s : ByteArray) (hs : s.size ≤ 140737488351232) (i : Nat) (c : Int) (h : i < s.size) (hc : bt s i = c) : ∃ e : Nat, i < e ∧ e ≤ s.size ∧ Ev (fun k => relation_reader_takes.f k s (i : Int) c) (true, s, (e : Int)) ∧ Ev (fun k => depotref22_behind.f k s (wrap64 ((i : Int) + 1))) (e : Int) := by
  obtain ⟨e, h1, h2, h3, h4⟩ := pass_ev s hs i 1 (by omega)
  refine ⟨e, by omega, h2, ?_, ?_⟩
  · unfold relation_reader_takes.f
    simp only [if_neg (show ¬ (i : Int) = s.size by omega), if_pos (show (0 : Int) ≤ i by omega), if_pos (show (i : Int) < s.size by omega), if_pos hc]
    exact Ev.bind h3 (Ev.now _)
  · have ew : wrap64 ((i : Int) + 1) = ((i + 1 : Nat) : Int) := by rw [wrap_id (by omega) (by omega)]; omega
    rw [ew]
    exact h4
theorem takes_no (s : ByteArray) (i : Nat) (c : Int) (hi : i ≤ s.size) (h : i = s.size ∨ ¬ bt s i = c) : Ev (fun k => relation_reader_takes.f k s (i : Int) c) (false, s, (i : Int)) := by
  unfold relation_reader_takes.f
  by_cases he : i = s.size
  · simp only [if_pos (show (i : Int) = s.size by omega)]
    exact Ev.now _
  · have hb : ¬ bt s i = c := h.resolve_left he
    simp only [if_neg (show ¬ (i : Int) = s.size by omega), if_pos (show (0 : Int) ≤ i by omega), if_pos (show (i : Int) < s.size by omega), if_neg hb]
    exact Ev.now _
theorem one_ev (s : ByteArray) (hs : s.size ≤ 140737488351232) (i : Nat) (hi : i ≤ s.size) : ∃ (r1 : ByteArray) (r2 : Int) (r3 : ByteArray) (er : Int) (e : Nat), i ≤ e ∧ e ≤ s.size ∧ (er = 0 → i < e) ∧
    Ev (fun k => relation_reader_relation.f k s (i : Int)) (r1, r2, r3, er, s, (e : Int)) ∧ Ev (fun k => depotref22_one.f k s (i : Int)) (r1, r2, r3, er, (e : Int)) := by
  obtain ⟨w, hw1, hw2, hwp, hwr⟩ := word_ev s i hs (s.size - i) i (by omega) (Nat.le_refl _)
  have hwn := ext_nil s i w hw1 hw2
  have hws := ext_size s i w hw1 hw2
  unfold relation_reader_relation.f depotref22_one.f
  by_cases e1 : w = i
  · refine ⟨⟨#[]⟩, 0, ⟨#[]⟩, 220, i, Nat.le_refl _, hi, fun h => absurd h (by decide), ?_, ?_⟩
    · refine Ev.bind hwp ?_
      simp only [if_pos (hwn.2 e1)]
      exact Ev.now _
    · refine Ev.bind hwr ?_
      simp only [if_pos (show (w : Int) = i by omega)]
      exact Ev.now _
  have ne1 : ¬ (w : Int) = i := by omega
  have nn1 : ¬ (s.extract (i : Int).toNat (w : Int).toNat).toList = [] := fun h => e1 (hwn.1 h)
  obtain ⟨nb, hnp, hnr⟩ := names_ev (s.extract (i : Int).toNat (w : Int).toNat) (by rw [hws]; omega)
  cases nb with
  | false =>
    refine ⟨⟨#[]⟩, 0, ⟨#[]⟩, 230, i, Nat.le_refl _, hi, fun h => absurd h (by decide), ?_, ?_⟩
    · refine Ev.bind hwp ?_
      simp only [if_neg nn1]
      refine Ev.bind hnp ?_
      simp only [if_true]
      exact Ev.now _
    · refine Ev.bind hwr ?_
      simp only [if_neg ne1, if_pos (show (0 : Int) ≤ i by omega), if_pos (show (i : Int) ≤ w by omega), if_pos (show (w : Int) ≤ s.size by omega)]
      refine Ev.bind hnr ?_
      simp only [Bool.false_eq_true, if_false]
      exact Ev.now _
  | true =>
  obtain ⟨p, hp1, hp2, hpp, hpr⟩ := pass_ev s hs i (w - i) (by omega)
  have ew : ((i + (w - i) : Nat) : Int) = (w : Int) := by omega
  rw [ew] at hpr
  generalize hnm : s.extract (i : Int).toNat (w : Int).toNat = nm at *
  have hP : ∀ {v}, Ev (fun k => (relation_reader_takes.f k s (p : Int) 40).bind fun x3 => if x3.1 = false then some (nm, 0, ⟨#[]⟩, 0, x3.2.1, x3.2.2) else
      (relation_reader_run.f k x3.2.1 x3.2.2 true).bind fun x4 => if opOf x4.1 = 0 then some (noRel 220 x4.2.1 x4.2.2) else
      (relation_reader_pass.f k x4.2.1 x4.2.2 x4.1.size).bind fun x5 => (relation_reader_run.f k x5.1 x5.2 false).bind fun x6 => if x6.1.toList = [] then some (noRel 220 x6.2.1 x6.2.2) else
      (version_Legal.f k x6.1).bind fun lg => if lg = false then some (noRel 200 x6.2.1 x6.2.2) else
      (relation_reader_pass.f k x6.2.1 x6.2.2 x6.1.size).bind fun x7 => (relation_reader_takes.f k x7.1 x7.2 41).bind fun x8 => if x8.1 = false then some (noRel 220 x8.2.1 x8.2.2) else some (nm, opOf x4.1, x6.1, 0, x8.2.1, x8.2.2)) v → Ev (fun k => relation_reader_relation.f k s (i : Int)) v := by
    intro v h
    unfold relation_reader_relation.f
    refine Ev.bind hwp ?_
    simp only [if_neg nn1]
    refine Ev.bind hnp ?_
    simp only [Bool.true_eq_false, if_false, hws]
    exact Ev.bind hpp h
  have hR : ∀ {b : Bool} {v}, (b = true ↔ (p = s.size ∨ ¬ bt s p = 40)) → Ev (fun k => depotref22_one.j0 k s (p : Int) b nm 0 ⟨#[]⟩) v → Ev (fun k => depotref22_one.f k s (i : Int)) v := by
    intro b v hb h
    unfold depotref22_one.f
    refine Ev.bind hwr ?_
    simp only [if_neg ne1, if_pos (show (0 : Int) ≤ i by omega), if_pos (show (i : Int) ≤ w by omega), if_pos (show (w : Int) ≤ s.size by omega), hnm]
    refine Ev.bind hnr ?_
    simp only [if_true]
    refine Ev.bind hpr ?_
    by_cases he : p = s.size
    · have : b = true := hb.2 (.inl he)
      subst this
      simp only [if_pos (show (p : Int) = s.size by omega)]
      exact h
    · have e2 : (bt s (p : Int) != 40) = b := by
        by_cases h4 : bt s (p : Int) = 40
        · have : b = false := by
            cases b with
            | false => rfl
            | true => exact absurd (hb.1 rfl) (by rintro (q | q); exact he q; exact q h4)
          rw [this, h4]; rfl
        · rw [hb.2 (.inr h4)]
          exact bne_iff_ne.2 h4
      simp only [if_neg (show ¬ (p : Int) = s.size by omega), if_pos (show (0 : Int) ≤ p by omega), if_pos (show (p : Int) < s.size by omega), e2]
      exact h
  clear hwp hwr hnp hnr hpp hpr
  by_cases hA : p = s.size ∨ ¬ bt s (p : Int) = 40
  · refine ⟨nm, 0, ⟨#[]⟩, 0, p, by omega, hp2, fun _ => by omega, hP ?_, hR (b := true) (by simpa using hA) ?_⟩
    · refine Ev.bind (takes_no s p 40 hp2 hA) ?_
      simp only [if_true]
      exact Ev.now _
    · refine Ev.step (f := fun _ => some (nm, 0, ⟨#[]⟩, 0, (p : Int))) (fun k => ?_) (Ev.now _)
      simp only [depotref22_one.j0, if_true]
  have hplt : p < s.size := by
    rcases Nat.lt_or_eq_of_le hp2 with h | h
    · exact h
    · exact absurd (.inl h) hA
  have hp40 : bt s (p : Int) = 40 := by
    by_cases h : bt s (p : Int) = 40
    · exact h
    · exact absurd (.inr h) hA
  obtain ⟨q, hq1, hq2, hqp, hqr⟩ := takes_yes s hs p 40 hplt hp40
  obtain ⟨m, hm1, hm2, hmp, hmr⟩ := sign_ev s q hs (s.size - q) q (by omega) (Nat.le_refl _)
  have hms := ext_size s q m hm1 hm2
  have hR2 : ∀ {v}, Ev (fun k => depotref22_one.l0 k s (q : Int) (m : Int) 6 nm (opOf (s.extract (q : Int).toNat (m : Int).toNat)) ⟨#[]⟩) v → Ev (fun k => depotref22_one.f k s (i : Int)) v := by
    intro v h
    refine hR (b := false) ⟨fun h => absurd h (by decide), fun h => absurd h hA⟩ ?_
    refine Ev.step (f := fun k => (depotref22_behind.f k s (wrap64 ((p : Int) + 1))).bind fun t166 => (depotref22_sign.f k s t166).bind fun t167 => depotref22_one.l0 k s t166 t167 1 nm 0 ⟨#[]⟩) (fun k => ?_) ?_
    · simp only [depotref22_one.j0, Bool.false_eq_true, if_false]
    · refine Ev.bind hqr ?_
      refine Ev.bind hmr ?_
      exact signs_ev s q m nm hm1 hm2 v h
  generalize hop : s.extract (q : Int).toNat (m : Int).toNat = op at *
  by_cases ho : opOf op = 0
  · refine ⟨⟨#[]⟩, 0, ⟨#[]⟩, 220, q, by omega, hq2, fun h => absurd h (by decide), hP ?_, hR2 ?_⟩
    · refine Ev.bind hqp ?_
      simp only [Bool.true_eq_false, if_false]
      refine Ev.bind hmp ?_
      simp only [if_pos ho]
      exact Ev.now _
    · refine Ev.step (f := fun _ => some (⟨#[]⟩, 0, ⟨#[]⟩, 220, (q : Int))) (fun k => ?_) (Ev.now _)
      simp only [depotref22_one.l0, if_neg (show ¬ (6 : Int) ≤ 5 by omega), if_pos ho]
  obtain ⟨u, hu1, hu2, hup, hur⟩ := pass_ev s hs q (m - q) (by omega)
  have ew2 : ((q + (m - q) : Nat) : Int) = (m : Int) := by omega
  rw [ew2] at hur
  obtain ⟨x, hx1, hx2, hxp, hxr⟩ := word_ev s u hs (s.size - u) u (by omega) (Nat.le_refl _)
  have hxn := ext_nil s u x hx1 hx2
  have hxs := ext_size s u x hx1 hx2
  have hP3 : ∀ {v}, Ev (fun k => if (s.extract (u : Int).toNat (x : Int).toNat).toList = [] then some (noRel 220 s (u : Int)) else
      (version_Legal.f k (s.extract (u : Int).toNat (x : Int).toNat)).bind fun lg => if lg = false then some (noRel 200 s (u : Int)) else
      (relation_reader_pass.f k s (u : Int) ((x - u : Nat) : Int)).bind fun x7 => (relation_reader_takes.f k x7.1 x7.2 41).bind fun x8 => if x8.1 = false then some (noRel 220 x8.2.1 x8.2.2) else some (nm, opOf op, s.extract (u : Int).toNat (x : Int).toNat, 0, x8.2.1, x8.2.2)) v → Ev (fun k => relation_reader_relation.f k s (i : Int)) v := by
    intro v h
    refine hP ?_
    refine Ev.bind hqp ?_
    simp only [Bool.true_eq_false, if_false]
    refine Ev.bind hmp ?_
    simp only [if_neg ho, hms]
    refine Ev.bind hup ?_
    refine Ev.bind hxp ?_
    simp only [hxs]
    exact h
  have hR3 : ∀ {v}, Ev (fun k => if (x : Int) = u then some ((⟨#[]⟩ : ByteArray), (0 : Int), (⟨#[]⟩ : ByteArray), (220 : Int), (u : Int)) else
      (depotref20_Legal.f k (s.extract (u : Int).toNat (x : Int).toNat)).bind fun t171 => if t171 = true then (depotref22_behind.f k s (x : Int)).bind fun t172 => (if t172 = (s.size : Int) then (some ((⟨#[]⟩ : ByteArray), 0, (⟨#[]⟩ : ByteArray), 220, t172)) else (if 0 ≤ t172 then (if t172 < (s.size : Int) then (if (bt s t172) = 41 then ((depotref22_behind.f k s (wrap64 (t172 + 1))).bind fun t173 => (some (nm, opOf op, s.extract (u : Int).toNat (x : Int).toNat, 0, t173))) else (some ((⟨#[]⟩ : ByteArray), 0, (⟨#[]⟩ : ByteArray), 220, t172))) else (none)) else (none))) else some ((⟨#[]⟩ : ByteArray), 0, (⟨#[]⟩ : ByteArray), 200, (u : Int))) v → Ev (fun k => depotref22_one.f k s (i : Int)) v := by
    intro v h
    refine hR2 ?_
    refine Ev.step (f := fun k => (depotref22_behind.f k s (m : Int)).bind fun t169 => ((depotref22_word.f k s t169).bind fun t170 => (if t170 = t169 then (some ((⟨#[]⟩ : ByteArray), 0, (⟨#[]⟩ : ByteArray), 220, t169)) else (if 0 ≤ t169 then (if t169 ≤ t170 then (if t170 ≤ (s.size : Int) then ((depotref20_Legal.f k (s.extract (t169 : Int).toNat (t170 : Int).toNat)).bind fun t171 => (if t171 = true then ((depotref22_behind.f k s t170).bind fun t172 => (if t172 = (s.size : Int) then (some ((⟨#[]⟩ : ByteArray), 0, (⟨#[]⟩ : ByteArray), 220, t172)) else (if 0 ≤ t172 then (if t172 < (s.size : Int) then (if (bt s t172) = 41 then ((depotref22_behind.f k s (wrap64 (t172 + 1))).bind fun t173 => (some (nm, opOf op, s.extract (t169 : Int).toNat (t170 : Int).toNat, 0, t173))) else (some ((⟨#[]⟩ : ByteArray), 0, (⟨#[]⟩ : ByteArray), 220, t172))) else (none)) else (none)))) else (some ((⟨#[]⟩ : ByteArray), 0, (⟨#[]⟩ : ByteArray), 200, t169)))) else (none)) else (none)) else (none))))) (fun k => ?_) ?_
    · simp only [depotref22_one.l0, if_neg (show ¬ (6 : Int) ≤ 5 by omega), if_neg ho]
    · refine Ev.bind hur ?_
      refine Ev.bind hxr ?_
      simp only [if_pos (show (0 : Int) ≤ u by omega), if_pos (show (u : Int) ≤ x by omega), if_pos (show (x : Int) ≤ s.size by omega)]
      exact h
  clear hP hR hR2
  by_cases hxu : x = u
  · refine ⟨⟨#[]⟩, 0, ⟨#[]⟩, 220, u, by omega, hu2, fun h => absurd h (by decide), hP3 ?_, hR3 ?_⟩
    · simp only [if_pos (hxn.2 hxu)]
      exact Ev.now _
    · simp only [if_pos (show (x : Int) = u by omega)]
      exact Ev.now _
  have nn2 : ¬ (s.extract (u : Int).toNat (x : Int).toNat).toList = [] := fun h => hxu (hxn.1 h)
  have ne2 : ¬ (x : Int) = u := by omega
  have hL1 := plegal_ev (s.extract (u : Int).toNat (x : Int).toNat) (by rw [hxs]; omega)
  have hL2 := legal_ev (s.extract (u : Int).toNat (x : Int).toNat) (by rw [hxs]; omega)
  simp only [if_neg nn2] at hP3
  simp only [if_neg ne2] at hR3
  generalize s.extract (u : Int).toNat (x : Int).toNat = ve at *
  cases hv : okS ve with
  | false =>
    rw [hv] at hL1 hL2
    refine ⟨⟨#[]⟩, 0, ⟨#[]⟩, 200, u, by omega, hu2, fun h => absurd h (by decide), hP3 ?_, hR3 ?_⟩
    · refine Ev.bind hL1 ?_
      simp only [if_true]
      exact Ev.now _
    · refine Ev.bind hL2 ?_
      simp only [Bool.false_eq_true, if_false]
      exact Ev.now _
  | true =>
  rw [hv] at hL1 hL2
  obtain ⟨y, hy1, hy2, hyp, hyr⟩ := pass_ev s hs u (x - u) (by omega)
  have ew3 : ((u + (x - u) : Nat) : Int) = (x : Int) := by omega
  rw [ew3] at hyr
  by_cases hB : y = s.size ∨ ¬ bt s (y : Int) = 41
  · refine ⟨⟨#[]⟩, 0, ⟨#[]⟩, 220, y, by omega, hy2, fun h => absurd h (by decide), hP3 ?_, hR3 ?_⟩
    · refine Ev.bind hL1 ?_
      simp only [Bool.true_eq_false, if_false]
      refine Ev.bind hyp ?_
      refine Ev.bind (takes_no s y 41 hy2 hB) ?_
      simp only [if_true]
      exact Ev.now _
    · refine Ev.bind hL2 ?_
      simp only [if_true]
      refine Ev.bind hyr ?_
      by_cases he : y = s.size
      · simp only [if_pos (show (y : Int) = s.size by omega)]
        exact Ev.now _
      · simp only [if_neg (show ¬ (y : Int) = s.size by omega), if_pos (show (0 : Int) ≤ y by omega), if_pos (show (y : Int) < s.size by omega), if_neg (hB.resolve_left he)]
        exact Ev.now _
  have hylt : y < s.size := by
    rcases Nat.lt_or_eq_of_le hy2 with h | h
    · exact h
    · exact absurd (.inl h) hB
  have hy41 : bt s (y : Int) = 41 := by
    by_cases h : bt s (y : Int) = 41
    · exact h
    · exact absurd (.inr h) hB
  obtain ⟨z, hz1, hz2, hzp, hzr⟩ := takes_yes s hs y 41 hylt hy41
  refine ⟨nm, opOf op, ve, 0, z, by omega, hz2, fun _ => by omega, hP3 ?_, hR3 ?_⟩
  · refine Ev.bind hL1 ?_
    simp only [Bool.true_eq_false, if_false]
    refine Ev.bind hyp ?_
    refine Ev.bind hzp ?_
    simp only [Bool.true_eq_false, if_false]
    exact Ev.now _
  · refine Ev.bind hL2 ?_
    simp only [if_true]
    refine Ev.bind hyr ?_
    simp only [if_neg (show ¬ (y : Int) = s.size by omega), if_pos (show (0 : Int) ≤ y by omega), if_pos (show (y : Int) < s.size by omega), if_pos hy41]
    exact Ev.bind hzr (Ev.now _)
end Go.Proofs.YtmocooihkobdjaaDoor.Read
end
section
set_option linter.unusedVariables false
set_option linter.unusedSimpArgs false
namespace Go.Proofs.YtmocooihkobdjaaDoor.Read
open Go.RowKit Go.Proofs.YtmocooihkobdjaaDoor.Q Go.Proofs.YtmocooihkobdjaaDoorW.PrintWords Go.Proofs.YtmocooihkobdjaaDoorW.PrintLast Go.Proofs.YtmocooihkobdjaaDoor.Ver
theorem lists_ev (s : ByteArray) (hs : s.size ≤ 140737488351232) (hb : s.size ≤ 1048576) (bars : Bool) : ∀ (d i : Nat), s.size - i < d → i ≤ s.size → ∀ (x8 : List (List S46)) (x10 : List S46), x8.length + x10.length ≤ i →
    (∀ l ∈ x8, (l.length = 1 ∨ bars = true) ∧ l.length ≤ s.size) → (x10 = [] ∨ bars = true) →
    ∃ (L : List (List S46)) (er : Int) (p : Int), (∀ l ∈ L, (l.length = 1 ∨ bars = true) ∧ l.length ≤ s.size) ∧ L.length ≤ s.size ∧
    Ev (fun k => relation_read.l1 k s bars x8 x10 true s (i : Int)) (L, er, p) ∧ Ev (fun k => depotref22_lists.l0 k s bars x8 (i : Int) x10) (L, er, p) := by
  intro d
  induction d with
  | zero => intro i hd; exact absurd hd (by omega)
  | succ d ih =>
    intro i hd hi x8 x10 hlen hx8 hx10
    obtain ⟨r1, r2, r3, er, e, he1, he2, he3, hp, hr⟩ := one_ev s hs i hi
    by_cases her : er = 0
    · subst her
      have hie := he3 rfl
      generalize hy : x10 ++ [(⟨r1, r2, r3⟩ : S46)] = y at *
      have hyl : y.length = x10.length + 1 := by rw [← hy]; simp
      have hy1 : (y.length = 1 ∨ bars = true) ∧ y.length ≤ s.size := by
        refine ⟨?_, by omega⟩
        rcases hx10 with h | h
        · left; rw [hyl, h]; rfl
        · exact .inr h
      have hP : ∀ {v}, Ev (fun k => if bars = true then ((relation_reader_takes.f k s (e : Int) 124).bind fun bt136 => (relation_read.l1 k s bars x8 y bt136.1 bt136.2.1 bt136.2.2)) else (relation_read.l1 k s bars x8 y false s (e : Int))) v → Ev (fun k => relation_read.l1 k s bars x8 x10 true s (i : Int)) v := by
        intro v h
        refine Ev.step (f := fun k => ((relation_reader_relation.f k s (i : Int)).bind fun bt126 => (if bt126.2.2.2.1 = 0 then (if x10.length < 3518437208883 then ((some (x10 ++ [(⟨bt126.1, bt126.2.1, bt126.2.2.1⟩ : S46)] : List (S46))).bind fun y133 => (if bars = true then ((relation_reader_takes.f k bt126.2.2.2.2.1 bt126.2.2.2.2.2 124).bind fun bt136 => (relation_read.l1 k s bars x8 y133 bt136.1 bt136.2.1 bt136.2.2)) else (relation_read.l1 k s bars x8 y133 false bt126.2.2.2.2.1 bt126.2.2.2.2.2))) else (none)) else (some (([] : List (List (S46))), bt126.2.2.2.1, bt126.2.2.2.2.2))))) (fun k => ?_) ?_
        · simp only [relation_read.l1, if_true]
        · refine Ev.bind hp ?_
          simp only [if_true, if_pos (show x10.length < 3518437208883 by omega), Option.bind_some, hy]
          exact h
      have hR : ∀ {b : Bool} {v}, (b = true ↔ (e < s.size ∧ bt s (e : Int) = 124 ∧ bars = true)) → Ev (fun k => depotref22_lists.j1 k s bars x8 (e : Int) y b) v → Ev (fun k => depotref22_lists.l0 k s bars x8 (i : Int) x10) v := by
        intro b v hbb h
        refine Ev.step (f := fun k => (depotref22_one.f k s (i : Int)).bind fun bt175 => (if bt175.2.2.2.1 = 0 then (if x10.length < 3518437208883 then ((some (x10 ++ [(⟨bt175.1, bt175.2.1, bt175.2.2.1⟩ : S46)] : List (S46))).bind fun y181 => (if bt175.2.2.2.2 < (s.size : Int) then (if 0 ≤ bt175.2.2.2.2 then (if (bt s bt175.2.2.2.2) = 124 then (depotref22_lists.j1 k s bars x8 bt175.2.2.2.2 y181 bars) else (depotref22_lists.j1 k s bars x8 bt175.2.2.2.2 y181 false)) else (none)) else (depotref22_lists.j1 k s bars x8 bt175.2.2.2.2 y181 false))) else (none)) else (some (([] : List (List (S46))), bt175.2.2.2.1, bt175.2.2.2.2)))) (fun k => ?_) ?_
        · simp only [depotref22_lists.l0]
        · refine Ev.bind hr ?_
          simp only [if_true, if_pos (show x10.length < 3518437208883 by omega), Option.bind_some, hy, if_pos (show (0 : Int) ≤ e by omega)]
          by_cases h1 : (e : Int) < s.size
          · simp only [if_pos h1]
            by_cases h2 : bt s (e : Int) = 124
            · simp only [if_pos h2]
              have : b = bars := by
                cases hbars : bars with
                | true => exact hbb.2 ⟨by omega, h2, hbars⟩
                | false =>
                  cases b with
                  | false => rfl
                  | true => exact absurd (hbb.1 rfl).2.2 (by rw [hbars]; decide)
              rw [this] at h
              exact h
            · simp only [if_neg h2]
              have : b = false := by
                cases b with
                | false => rfl
                | true => exact absurd (hbb.1 rfl).2.1 h2
              rw [this] at h
              exact h
          · simp only [if_neg h1]
            have : b = false := by
              cases b with
              | false => rfl
              | true => exact absurd (hbb.1 rfl).1 (by omega)
            rw [this] at h
            exact h
      by_cases hC : e < s.size ∧ bt s (e : Int) = 124 ∧ bars = true
      · obtain ⟨f, hf1, hf2, hfp, hfr⟩ := takes_yes s hs e 124 hC.1 hC.2.1
        obtain ⟨L, er, p, hL1, hL2, hLp, hLr⟩ := ih f (by omega) hf2 x8 y (by omega) hx8 (.inr hC.2.2)
        refine ⟨L, er, p, hL1, hL2, hP ?_, hR (b := true) ⟨fun _ => hC, fun _ => rfl⟩ ?_⟩
        · simp only [if_pos hC.2.2]
          exact Ev.bind hfp hLp
        · refine Ev.step (f := fun k => (depotref22_behind.f k s (wrap64 ((e : Int) + 1))).bind fun t184 => (depotref22_lists.l0 k s bars x8 t184 y)) (fun k => ?_) (Ev.bind hfr hLr)
          simp only [depotref22_lists.j1, if_true]
      · have hP2 : ∀ {v}, Ev (fun k => relation_read.l1 k s bars x8 y false s (e : Int)) v → Ev (fun k => relation_read.l1 k s bars x8 x10 true s (i : Int)) v := by
          intro v h
          refine hP ?_
          by_cases hbars : bars = true
          · simp only [if_pos hbars]
            refine Ev.bind (takes_no s e 124 he2 ?_) h
            by_cases h1 : e = s.size
            · exact .inl h1
            · exact .inr fun h2 => hC ⟨by omega, h2, hbars⟩
          · simp only [if_neg hbars]
            exact h
        have hR2 : ∀ {v}, Ev (fun k => if (e : Int) = (s.size : Int) then (some (x8 ++ [y], (0 : Int), (0 : Int))) else (if 0 ≤ (e : Int) then (if (e : Int) < (s.size : Int) then (if (bt s e) = 44 then ((depotref22_behind.f k s (wrap64 ((e : Int) + 1))).bind fun t188 => (depotref22_lists.l0 k s bars (x8 ++ [y]) t188 ([] : List (S46)))) else (some (([] : List (List (S46))), 220, (e : Int)))) else (none)) else (none))) v → Ev (fun k => depotref22_lists.l0 k s bars x8 (i : Int) x10) v := by
          intro v h
          refine hR (b := false) ⟨fun q => absurd q (by decide), fun q => absurd q hC⟩ ?_
          refine Ev.step (f := _) (fun k => ?_) h
          simp only [depotref22_lists.j1, Bool.false_eq_true, if_false, if_pos (show x8.length < 5864062014805 by omega), Option.bind_some]
        have hP3 : ∀ {v}, Ev (fun k => (relation_reader_takes.f k s (e : Int) 44).bind fun bt123 => (relation_read.l0 k s bars (x8 ++ [y]) bt123.1 bt123.2.1 bt123.2.2)) v → Ev (fun k => relation_read.l1 k s bars x8 x10 true s (i : Int)) v := by
          intro v h
          refine hP2 (Ev.step (f := _) (fun k => ?_) h)
          simp only [relation_read.l1, Bool.false_eq_true, if_false, if_pos (show x8.length < 5864062014805 by omega)]
        have hx8y : ∀ l ∈ x8 ++ [y], (l.length = 1 ∨ bars = true) ∧ l.length ≤ s.size := by
          intro l hl
          rcases List.mem_append.1 hl with h | h
          · exact hx8 l h
          · rw [List.mem_singleton.1 h]; exact hy1
        have hlen8 : (x8 ++ [y]).length = x8.length + 1 := by simp
        by_cases h1 : e = s.size
        · refine ⟨x8 ++ [y], 0, 0, hx8y, by omega, hP3 ?_, hR2 ?_⟩
          · refine Ev.bind (takes_no s e 44 he2 (.inl h1)) ?_
            refine Ev.step (f := fun _ => some (x8 ++ [y], 0, 0)) (fun k => ?_) (Ev.now _)
            simp only [relation_read.l0, Bool.false_eq_true, if_false, if_neg (show ¬ (e : Int) < s.size by omega)]
          · simp only [if_pos (show (e : Int) = s.size by omega)]
            exact Ev.now _
        · by_cases h2 : bt s (e : Int) = 44
          · obtain ⟨f, hf1, hf2, hfp, hfr⟩ := takes_yes s hs e 44 (by omega) h2
            obtain ⟨L, er, p, hL1, hL2, hLp, hLr⟩ := ih f (by omega) hf2 (x8 ++ [y]) [] (by rw [hlen8]; simp only [List.length_nil]; omega) hx8y (.inl rfl)
            refine ⟨L, er, p, hL1, hL2, hP3 ?_, hR2 ?_⟩
            · refine Ev.bind hfp ?_
              refine Ev.step (f := _) (fun k => ?_) hLp
              simp only [relation_read.l0, if_true]
            · simp only [if_neg (show ¬ (e : Int) = s.size by omega), if_pos (show (0 : Int) ≤ e by omega), if_pos (show (e : Int) < s.size by omega), if_pos h2]
              exact Ev.bind hfr hLr
          · refine ⟨[], 220, e, by simp, by simp, hP3 ?_, hR2 ?_⟩
            · refine Ev.bind (takes_no s e 44 he2 (.inr h2)) ?_
              refine Ev.step (f := fun _ => some ([], 220, (e : Int))) (fun k => ?_) (Ev.now _)
              simp only [relation_read.l0, Bool.false_eq_true, if_false, if_pos (show (e : Int) < s.size by omega)]
            · simp only [if_neg (show ¬ (e : Int) = s.size by omega), if_pos (show (0 : Int) ≤ e by omega), if_pos (show (e : Int) < s.size by omega), if_neg h2]
              exact Ev.now _
    · refine ⟨[], er, e, by simp, by simp, ?_, ?_⟩
      · refine Ev.step (f := fun k => ((relation_reader_relation.f k s (i : Int)).bind fun bt126 => (if bt126.2.2.2.1 = 0 then (if x10.length < 3518437208883 then ((some (x10 ++ [(⟨bt126.1, bt126.2.1, bt126.2.2.1⟩ : S46)] : List (S46))).bind fun y133 => (if bars = true then ((relation_reader_takes.f k bt126.2.2.2.2.1 bt126.2.2.2.2.2 124).bind fun bt136 => (relation_read.l1 k s bars x8 y133 bt136.1 bt136.2.1 bt136.2.2)) else (relation_read.l1 k s bars x8 y133 false bt126.2.2.2.2.1 bt126.2.2.2.2.2))) else (none)) else (some (([] : List (List (S46))), bt126.2.2.2.1, bt126.2.2.2.2.2))))) (fun k => ?_) ?_
        · simp only [relation_read.l1, if_true]
        · refine Ev.bind hp ?_
          simp only [if_neg her]
          exact Ev.now _
      · refine Ev.step (f := fun k => (depotref22_one.f k s (i : Int)).bind fun bt175 => (if bt175.2.2.2.1 = 0 then (if x10.length < 3518437208883 then ((some (x10 ++ [(⟨bt175.1, bt175.2.1, bt175.2.2.1⟩ : S46)] : List (S46))).bind fun y181 => (if bt175.2.2.2.2 < (s.size : Int) then (if 0 ≤ bt175.2.2.2.2 then (if (bt s bt175.2.2.2.2) = 124 then (depotref22_lists.j1 k s bars x8 bt175.2.2.2.2 y181 bars) else (depotref22_lists.j1 k s bars x8 bt175.2.2.2.2 y181 false)) else (none)) else (depotref22_lists.j1 k s bars x8 bt175.2.2.2.2 y181 false))) else (none)) else (some (([] : List (List (S46))), bt175.2.2.2.1, bt175.2.2.2.2)))) (fun k => ?_) ?_
        · simp only [depotref22_lists.l0]
        · refine Ev.bind hr ?_
          simp only [if_neg her]
          exact Ev.now _
theorem read_ev (s : ByteArray) (hs : s.size ≤ 140737488351232) (hb : s.size ≤ 1048576) (bars : Bool) : ∃ (L : List (List S46)) (er : Int) (p : Int), (∀ l ∈ L, (l.length = 1 ∨ bars = true) ∧ l.length ≤ s.size) ∧ L.length ≤ s.size ∧
    Ev (fun k => relation_read.f k s bars) (L, er, p) ∧ Ev (fun k => depotref22_lists.f k s bars) (L, er, p) := by
  obtain ⟨i, h1, h2, hp, hr⟩ := gaps_ev s hs s.size 0 (by omega)
  unfold relation_read.f depotref22_lists.f
  by_cases he : i = s.size
  · refine ⟨[], 0, 0, by simp, by simp, ?_, ?_⟩
    · refine Ev.bind hp ?_
      simp only [if_pos (show (i : Int) = s.size by omega)]
      exact Ev.now _
    · refine Ev.bind hr ?_
      simp only [if_pos (show (i : Int) = s.size by omega)]
      exact Ev.now _
  · obtain ⟨L, er, p, hL1, hL2, hLp, hLr⟩ := lists_ev s hs hb bars (s.size - i + 1) i (by omega) h2 [] [] (by simp) (by simp) (.inl rfl)
    refine ⟨L, er, p, hL1, hL2, ?_, ?_⟩
    · refine Ev.bind hp ?_
      simp only [if_neg (show ¬ (i : Int) = s.size by omega)]
      refine Ev.step (f := _) (fun k => ?_) hLp
      simp only [relation_read.l0, if_true]
    · refine Ev.bind hr ?_
      simp only [if_neg (show ¬ (i : Int) = s.size by omega)]
      exact hLr
end Go.Proofs.YtmocooihkobdjaaDoor.Read
end
section
set_option linter.unusedVariables false
set_option linter.unusedSimpArgs false
namespace Go.Proofs.YtmocooihkobdjaaDoor.Model
open Go.RowKit Go.Proofs.YtmocooihkobdjaaDoor.Q Go.Proofs.YtmocooihkobdjaaDoorW.PrintWords Go.Proofs.YtmocooihkobdjaaDoorW.PrintLast Go.Proofs.YtmocooihkobdjaaDoor.Ver
theorem ev_uniq {α : Type} {g : Nat → Option α} {a b : α} (h1 : Ev g a) (h2 : Ev g b) : a = b := by
  obtain ⟨K1, e1⟩ := h1
  obtain ⟨K2, e2⟩ := h2
  have := (e1 (max K1 K2) (Nat.le_max_left _ _)).symm.trans (e2 (max K1 K2) (Nat.le_max_right _ _))
  exact Option.some.inj this
theorem rflat_ev (L : List (List S46)) (er p : Int) (hL : L.length ≤ 1000000000) (h1 : ∀ l ∈ L, l.length = 1) : ∀ (d i : Nat), i + d = L.length → ∀ out : List S46, out.length ≤ i → Ev (fun k => depotref22_ReadList.l0 k L er p out (i : Int)) (out ++ (L.drop i).flatten, er, p) := by
  intro d
  induction d with
  | zero =>
    intro i hi out ho
    rw [List.drop_of_length_le (by omega), List.flatten_nil, List.append_nil]
    refine Ev.step (f := fun _ => some (out, er, p)) (fun k => ?_) (Ev.now _)
    simp only [depotref22_ReadList.l0]
    rw [if_neg (by omega)]
  | succ d ih =>
    intro i hi out ho
    have hi' : i < L.length := by omega
    have ew : wrap64 ((i : Int) + 1) = ((i + 1 : Nat) : Int) := by rw [wrap_id (by omega) (by omega)]; omega
    obtain ⟨a, ha⟩ := List.length_eq_one_iff.1 (h1 _ (List.getElem_mem hi'))
    have hn := ih (i + 1) (by omega) (out ++ [a]) (by simp; omega)
    rw [drop_at hi', List.flatten_cons, ← List.append_assoc, ha]
    refine Ev.step (f := _) (fun k => ?_) hn
    have e0 : rd_T46 [a] 0 = a := rfl
    simp only [depotref22_ReadList.l0, ew, rd_at hi', ha, e0, List.length_cons, List.length_nil, if_pos (show (i : Int) < L.length by omega), if_pos (show (0 : Int) ≤ i by omega), if_pos (show (0 : Int) < ((0 + 1 : Nat) : Int) by omega), if_pos (show out.length < 3518437208883 by omega)]
theorem RefRead_ev (s : ByteArray) (hb : s.size ≤ 1048576) : Ev (fun k => depotref22_Read.f k s) (placeM s (readM true s.data.toList)) := by
  obtain ⟨L, er, p, _, _, hp, hr⟩ := Go.Proofs.YtmocooihkobdjaaDoor.Read.read_ev s (by omega) hb true
  have := ev_uniq hp (read_ev s (by omega) true)
  rw [← this]
  unfold depotref22_Read.f
  exact Ev.bind hr (Ev.now _)
theorem RefReadList_ev (s : ByteArray) (hb : s.size ≤ 1048576) : Ev (fun k => depotref22_ReadList.f k s) ((readM false s.data.toList).1.flatten, (placeM s (readM false s.data.toList)).2) := by
  obtain ⟨L, er, p, h1, h2, hp, hr⟩ := Go.Proofs.YtmocooihkobdjaaDoor.Read.read_ev s (by omega) hb false
  have e := ev_uniq hp (read_ev s (by omega) false)
  have e1 : (readM false s.data.toList).1 = L := (congrArg (·.1) e).symm
  have e2 : (placeM s (readM false s.data.toList)).2 = (er, p) := (congrArg (·.2) e).symm
  rw [e1, e2]
  unfold depotref22_ReadList.f
  refine Ev.bind hr ?_
  exact rflat_ev L er p (by omega) (fun l hl => (h1 l hl).1.resolve_right (by decide)) L.length 0 (by omega) [] (by simp)
end Go.Proofs.YtmocooihkobdjaaDoor.Model
end
section
set_option linter.unusedVariables false
set_option linter.unusedSimpArgs false
namespace Go.Proofs.YtmocooihkobdjaaDoor.Model
open Go.RowKit Go.Proofs.YtmocooihkobdjaaDoor.Q Go.Proofs.YtmocooihkobdjaaDoorW.PrintWords Go.Proofs.YtmocooihkobdjaaDoorW.PrintLast Go.Proofs.YtmocooihkobdjaaDoor.Ver
def cutL : B → B → List B
  | cur, [] => if cur = [] then [] else [cur]
  | cur, c :: r => if c = 10 then cur :: cutL [] r else cutL (cur ++ [c]) r
def headL (cur : B) : List B → List B
  | [] => [cur]
  | x :: xs => (cur ++ x) :: xs
theorem cut_split : ∀ (l cur : B), cutL cur l = headL cur (splitL l) ∨ cutL cur l ++ [[]] = headL cur (splitL l)
  | [], cur => by
    unfold cutL splitL headL
    by_cases h : cur = []
    · right; simp [h]
    · left; simp [h]
  | c :: r, cur => by
    by_cases hc : c = 10
    · rw [cutL, if_pos hc, splitL, if_pos hc]
      have hn : headL [] (splitL r) = splitL r := by
        cases hs : splitL r with
        | nil => exact absurd hs (splitL_ne r)
        | cons x xs => rfl
      rcases cut_split r [] with h | h
      · left; rw [h, hn]; simp [headL]
      · right; rw [List.cons_append, h, hn]; simp [headL]
    · rw [cutL, if_neg hc]
      obtain ⟨x, xs, h1, h2⟩ := splitL_cons c r hc
      have e : headL (cur ++ [c]) (splitL r) = headL cur (splitL (c :: r)) := by
        rw [h1, h2]; simp [headL]
      rw [← e]
      exact cut_split r (cur ++ [c])
theorem lines_end : ∀ (ls : List B) (i : Nat) (q : Q), linesM (ls ++ [[]]) i q = linesM ls i q
  | [], i, q => by
    have : idleM (trimM []) = true := by rfl
    simp only [List.nil_append, linesM, if_pos this]
  | l :: ls, i, q => by
    simp only [List.cons_append, linesM, lines_end ls]
theorem cut_lines (l : B) : linesM (cutL [] l) 0 ([], [], []) = reqM l := by
  have hn : headL [] (splitL l) = splitL l := by
    cases hs : splitL l with
    | nil => exact absurd hs (splitL_ne l)
    | cons x xs => rfl
  unfold reqM
  rcases cut_split l [] with h | h
  · rw [h, hn]
  · rw [← hn, ← h, lines_end]
theorem rlines_ev (s : ByteArray) (hs : s.size ≤ 1000000000) : ∀ (d i : Nat), i + d = s.size → ∀ (fr : Nat) (out : List ByteArray), fr ≤ i → out.length ≤ i → Ev (fun k => depotref03_Lines.l0 k s out (fr : Int) (i : Int)) (out ++ (cutL ((at_ s fr).take (i - fr)) (at_ s i)).map ofL) := by
  intro d
  induction d with
  | zero =>
    intro i hi fr out hf ho
    obtain rfl : i = s.size := by omega
    rw [at_end, cutL]
    have hlen := at_len s fr
    by_cases h : fr < s.size
    · have hne : ¬ (at_ s fr).take (s.size - fr) = [] := by
        intro q
        have := congrArg List.length q
        rw [List.length_take, hlen] at this
        simp at this
        omega
      rw [if_neg hne]
      refine Ev.step (f := fun _ => some (out ++ [s.extract (fr : Int).toNat s.size])) (fun k => ?_) ?_
      · simp only [depotref03_Lines.l0, if_neg (show ¬ (s.size : Int) < (s.size : Int) by omega), if_pos (show (fr : Int) < (s.size : Int) by omega), if_pos (show (0 : Int) ≤ (fr : Int) by omega), if_pos (show (fr : Int) ≤ (s.size : Int) by omega), if_pos (show out.length < 8796093022208 by omega)]
      · have e := ext_at s fr s.size
        rw [Int.toNat_natCast] at e ⊢
        rw [Int.toNat_natCast] at e
        rw [e]
        exact Ev.now _
    · have hne : (at_ s fr).take (s.size - fr) = [] := by
        rw [show s.size - fr = 0 by omega, List.take_zero]
      rw [if_pos hne]
      refine Ev.step (f := fun _ => some out) (fun k => ?_) ?_
      · simp only [depotref03_Lines.l0, if_neg (show ¬ (s.size : Int) < (s.size : Int) by omega), if_neg (show ¬ (fr : Int) < (s.size : Int) by omega)]
      · simp only [List.map_nil, List.append_nil]
        exact Ev.now _
  | succ d ih =>
    intro i hi fr out hf ho
    have hi' : i < s.size := by omega
    have ew : wrap64 ((i : Int) + 1) = ((i + 1 : Nat) : Int) := by rw [wrap_id (by omega) (by omega)]; omega
    rw [at_lt hi', cutL]
    have hbt := bt_eq s i hi'
    by_cases hc : s[i]'hi' = 10
    · rw [if_pos hc]
      have hb : bt s (i : Int) = 10 := by rw [hbt, hc]; rfl
      have hn := ih (i + 1) (by omega) (i + 1) (out ++ [s.extract (fr : Int).toNat (i : Int).toNat]) (by omega) (by simp; omega)
      rw [Nat.sub_self, List.take_zero, List.append_assoc] at hn
      have e := ext_at s fr i
      rw [e] at hn
      refine Ev.step (f := _) (fun k => ?_) hn
      simp only [depotref03_Lines.l0, ew, hb, if_true, if_pos (show (i : Int) < (s.size : Int) by omega), if_pos (show (0 : Int) ≤ (i : Int) by omega), if_pos (show (0 : Int) ≤ (fr : Int) by omega), if_pos (show (fr : Int) ≤ (i : Int) by omega), if_pos (show (i : Int) ≤ (s.size : Int) by omega), if_pos (show out.length < 8796093022208 by omega), e]
    · rw [if_neg hc]
      have hb : ¬ bt s (i : Int) = 10 := by
        rw [hbt]
        exact fun q => hc (toNat_inj.1 (show ((s[i]'hi').toNat : Int) = ((10 : UInt8).toNat : Int) from q))
      have hn := ih (i + 1) (by omega) fr out (by omega) (by omega)
      have e : (at_ s fr).take (i + 1 - fr) = (at_ s fr).take (i - fr) ++ [s[i]'hi'] := by
        rw [show i + 1 - fr = (i - fr) + 1 by omega, List.take_add_one]
        congr 1
        unfold at_
        rw [List.getElem?_drop, show fr + (i - fr) = i by omega]
        have h8 : s.data.toList[i]? = some (s[i]'hi') := List.getElem?_eq_getElem (by simpa using hi')
        rw [h8]
        rfl
      rw [e] at hn
      refine Ev.step (f := _) (fun k => ?_) hn
      simp only [depotref03_Lines.l0, ew, if_neg hb, if_pos (show (i : Int) < (s.size : Int) by omega), if_pos (show (0 : Int) ≤ (i : Int) by omega)]
theorem RefLines_ev (s : ByteArray) (hs : s.size ≤ 1000000000) : Ev (fun k => depotref03_Lines.f k s) ((cutL [] s.data.toList).map ofL) := by
  have := rlines_ev s hs s.size 0 (by omega) 0 [] (by omega) (by simp)
  simpa [depotref03_Lines.f, at_zero] using this
theorem trimR_pos {c : UInt8} (l : B) (h : blk c = true) : Lib.trimRightS (c :: l) [32, 9] = if Lib.trimRightS l [32, 9] = [] then [] else c :: Lib.trimRightS l [32, 9] := by
  unfold Lib.trimRightS
  rw [List.reverse_cons, List.dropWhile_append]
  cases hd : List.dropWhile (fun x => ([32, 9] : B).contains x) l.reverse with
  | nil =>
    simp only [List.isEmpty_nil, if_true, List.reverse_nil]
    rw [List.dropWhile_cons_of_pos (by rw [blk_eq]; exact h)]
    rfl
  | cons x xs =>
    simp
theorem trimR_neg {c : UInt8} (l : B) (h : blk c = false) : Lib.trimRightS (c :: l) [32, 9] = c :: Lib.trimRightS l [32, 9] := by
  unfold Lib.trimRightS
  rw [List.reverse_cons, List.dropWhile_append]
  cases hd : List.dropWhile (fun x => ([32, 9] : B).contains x) l.reverse with
  | nil =>
    simp only [List.isEmpty_nil, if_true, List.reverse_nil]
    rw [List.dropWhile_cons_of_neg (by rw [blk_eq, h]; decide)]
    rfl
  | cons x xs =>
    simp
theorem trim_pos {c : UInt8} (l : B) (h : blk c = true) : trimM (c :: l) = trimM l := by
  unfold trimM Lib.trimS
  rw [trimR_pos l h]
  split
  · rename_i e
    rw [e]
  · unfold Lib.trimLeftS
    rw [List.dropWhile_cons_of_pos (by rw [blk_eq]; exact h)]
theorem trim_neg {c : UInt8} (l : B) (h : blk c = false) : trimM (c :: l) = Lib.trimRightS (c :: l) [32, 9] := by
  unfold trimM Lib.trimS
  rw [trimR_neg l h]
  unfold Lib.trimLeftS
  rw [List.dropWhile_cons_of_neg (by rw [blk_eq, h]; decide)]
theorem trimR_snoc (l : B) (c : UInt8) : Lib.trimRightS (l ++ [c]) [32, 9] = if blk c = true then Lib.trimRightS l [32, 9] else l ++ [c] := by
  unfold Lib.trimRightS
  rw [List.reverse_append, List.reverse_singleton, List.singleton_append]
  split
  · rename_i h
    rw [List.dropWhile_cons_of_pos (by rw [blk_eq]; exact h)]
  · rename_i h
    rw [List.dropWhile_cons_of_neg (by rw [blk_eq]; exact h)]
    simp
theorem blank_ev (c : UInt8) : depotref21_blank.f (c.toNat : Int) = some (blk c) := by
  refine byte_all (P := fun c => depotref21_blank.f (c.toNat : Int) = some (blk c)) (fun n => ?_) c
  revert n
  decide +kernel
theorem rtrimR_ev : ∀ (n : Nat) (l : B), l.length = n → n ≤ 1000000000 → Ev (fun k => depotref21_Trim.l1 k (ofL l)) (ofL (Lib.trimRightS l [32, 9])) := by
  intro n
  induction n with
  | zero =>
    intro l hl _
    obtain rfl := List.eq_nil_of_length_eq_zero hl
    refine Ev.step (f := fun _ => some (ofL [])) (fun k => ?_) (Ev.now _)
    simp only [depotref21_Trim.l1, ofL_size, List.length_nil]
    rw [if_neg (by omega)]
  | succ n ih =>
    intro l hl hb
    obtain ⟨m, c, rfl⟩ : ∃ m c, l = m ++ [c] := by
      rcases List.eq_nil_or_concat l with h | ⟨m, c, h⟩
      · rw [h] at hl; simp at hl
      · exact ⟨m, c, by simpa using h⟩
    have hm : m.length = n := by simpa using hl
    have hz : (ofL (m ++ [c])).size = n + 1 := by rw [ofL_size, hl]
    have ew : wrap64 (((n + 1 : Nat) : Int) - 1) = (n : Int) := by rw [wrap_id (by omega) (by omega)]; omega
    have hbt : bt (ofL (m ++ [c])) (n : Int) = (c.toNat : Int) := by
      rw [bt_eq _ n (by rw [hz]; omega)]
      have h8 : (m ++ [c])[n]'(by rw [hl]; omega) = c := by
        rw [List.getElem_append_right (by omega)]
        simp [hm]
      exact congrArg (fun x : UInt8 => ((x.toNat : Nat) : Int)) h8
    have hex : (ofL (m ++ [c])).extract 0 (n : Int).toNat = ofL m := by
      have := ext_at (ofL (m ++ [c])) 0 n
      rw [at_zero, toL_ofL, Nat.sub_zero, Int.natCast_zero, Int.toNat_zero] at this
      rw [this, List.take_left' hm]
    rw [trimR_snoc]
    have hstep : ∀ k, depotref21_Trim.l1 (k + 1) (ofL (m ++ [c])) = if blk c = true then depotref21_Trim.l1 k (ofL m) else some (ofL (m ++ [c])) := by
      intro k
      simp only [depotref21_Trim.l1, hz, ew, hbt, blank_ev, Option.bind_some, hex, if_pos (show ((n + 1 : Nat) : Int) > 0 by omega), if_pos (show (0 : Int) ≤ (n : Int) by omega), if_pos (show (n : Int) < ((n + 1 : Nat) : Int) by omega), if_pos (show (n : Int) ≤ ((n + 1 : Nat) : Int) by omega)]
    refine Ev.step (f := _) hstep ?_
    by_cases h : blk c = true
    · simp only [if_pos h]
      exact ih m hm (by omega)
    · simp only [if_neg h]
      exact Ev.now _
theorem rtrim_ev : ∀ (l : B), l.length ≤ 1000000000 → Ev (fun k => depotref21_Trim.l0 k (ofL l)) (ofL (trimM l))
  | [], h => by
    refine Ev.step (f := fun k => depotref21_Trim.j1 k (ofL [])) (fun k => ?_) ?_
    · simp only [depotref21_Trim.l0, ofL_size, List.length_nil]
      rw [if_neg (by omega)]
    · refine Ev.step (f := fun k => depotref21_Trim.l1 k (ofL [])) (fun k => rfl) ?_
      exact rtrimR_ev 0 [] rfl (by omega)
  | c :: r, h => by
    rw [List.length_cons] at h
    have hz : (ofL (c :: r)).size = r.length + 1 := by rw [ofL_size, List.length_cons]
    have hbt : bt (ofL (c :: r)) 0 = (c.toNat : Int) := by
      have := bt_eq (ofL (c :: r)) 0 (by rw [hz]; omega)
      rw [Int.natCast_zero] at this
      rw [this]
      rfl
    have hex : (ofL (c :: r)).extract 1 (r.length + 1) = ofL r := by
      have := ext_at (ofL (c :: r)) 1 (r.length + 1)
      simp only [Int.toNat_natCast, at_, toL_ofL, List.drop_succ_cons, List.drop_zero, Nat.add_sub_cancel, List.take_length] at this
      exact this
    have hstep : ∀ k, depotref21_Trim.l0 (k + 1) (ofL (c :: r)) = if blk c = true then depotref21_Trim.l0 k (ofL r) else depotref21_Trim.j1 k (ofL (c :: r)) := by
      intro k
      simp only [depotref21_Trim.l0, hz, hbt, blank_ev, Option.bind_some, hex, if_pos (show ((r.length + 1 : Nat) : Int) > 0 by omega), if_pos (show (0 : Int) < ((r.length + 1 : Nat) : Int) by omega), if_pos (show (1 : Int) ≤ ((r.length + 1 : Nat) : Int) by omega)]
    refine Ev.step (f := _) hstep ?_
    by_cases hc : blk c = true
    · simp only [if_pos hc, trim_pos r hc]
      exact rtrim_ev r (by omega)
    · simp only [if_neg hc, trim_neg r (by simpa using hc)]
      refine Ev.step (f := fun k => depotref21_Trim.l1 k (ofL (c :: r))) (fun k => rfl) ?_
      exact rtrimR_ev (r.length + 1) (c :: r) (by simp) (by omega)
theorem parted_ev (t : B) (ht : t.length ≤ 1000000000) : ∀ (d i : Nat), i + d = t.length → (∀ c ∈ t.take i, blk c = false) → Ev (fun k => depotref24_Parted.l0 k (ofL t) (i : Int)) (ofL (wordM t), ofL (restM t)) := by
  intro d
  induction d with
  | zero =>
    intro i hi hn
    have hz : (ofL t).size = t.length := ofL_size t
    rw [List.take_of_length_le (by omega)] at hn
    have e1 : wordM t = t := by
      unfold wordM
      have := List.takeWhile_append_of_pos (p := fun c => !blk c) (l₁ := t) (l₂ := []) (fun c hc => by simp [hn c hc])
      simpa using this
    have e2 : restM t = [] := by
      have := wd_rest t
      rw [e1] at this
      simpa using this
    rw [e1, e2]
    refine Ev.step (f := fun _ => some (ofL t, ofL [])) (fun k => ?_) (Ev.now _)
    simp only [depotref24_Parted.l0]
    rw [if_neg (by omega)]
    rfl
  | succ d ih =>
    intro i hi hn
    have hz : (ofL t).size = t.length := ofL_size t
    have hi' : i < t.length := by omega
    have ew : wrap64 ((i : Int) + 1) = ((i + 1 : Nat) : Int) := by rw [wrap_id (by omega) (by omega)]; omega
    have hbt : bt (ofL t) (i : Int) = ((t[i]'hi').toNat : Int) := by
      rw [bt_eq _ i (by omega)]
      rfl
    have hsp : t = t.take i ++ t[i]'hi' :: t.drop (i + 1) := by
      rw [← List.drop_eq_getElem_cons hi', List.take_append_drop]
    by_cases hb : blk (t[i]'hi') = true
    · have e1 : wordM t = t.take i := by
        unfold wordM
        conv => lhs; rw [hsp]
        rw [List.takeWhile_append_of_pos (fun c hc => by simp [hn c hc]), List.takeWhile_cons_of_neg (by simp [hb]), List.append_nil]
      have e2 : restM t = t.drop i := by
        have h1 := wd_rest t
        rw [e1] at h1
        have h2 := List.take_append_drop i t
        exact List.append_cancel_left (h1.trans h2.symm)
      have x1 : (ofL t).extract 0 (i : Int).toNat = ofL (wordM t) := by
        have := ext_at (ofL t) 0 i
        rw [at_zero, toL_ofL, Nat.sub_zero, Int.natCast_zero, Int.toNat_zero] at this
        rw [this, e1]
      have x2 : (ofL t).extract (i : Int).toNat (ofL t).size = ofL (restM t) := by
        have := ext_at (ofL t) i (ofL t).size
        rw [Int.toNat_natCast] at this ⊢
        rw [Int.toNat_natCast] at this
        rw [this, e2]
        unfold at_
        rw [toL_ofL, List.take_of_length_le (by rw [List.length_drop]; omega)]
      refine Ev.step (f := fun _ => some (ofL (wordM t), ofL (restM t))) (fun k => ?_) (Ev.now _)
      simp only [depotref24_Parted.l0, x1, x2, if_pos (show (i : Int) < ((ofL t).size : Int) by omega), if_pos (show (0 : Int) ≤ (i : Int) by omega), if_pos (show (i : Int) ≤ ((ofL t).size : Int) by omega)]
      split
      · rfl
      · rename_i h1
        split
        · rfl
        · rename_i h2
          rw [hbt] at h1 h2
          have : blk (t[i]'hi') = false := by
            unfold blk
            rw [Bool.or_eq_false_iff]
            refine ⟨beq_eq_false_iff_ne.2 (fun q => h1 ?_), beq_eq_false_iff_ne.2 (fun q => h2 ?_)⟩
            · rw [q]; rfl
            · rw [q]; rfl
          rw [this] at hb
          cases hb
    · have hb0 : blk (t[i]'hi') = false := by simpa using hb
      have n1 : ¬ bt (ofL t) (i : Int) = 32 := by
        rw [hbt]
        intro q
        have : t[i]'hi' = 32 := toNat_inj.1 (show ((t[i]'hi').toNat : Int) = ((32 : UInt8).toNat : Int) from q)
        rw [this] at hb0
        cases hb0
      have n2 : ¬ bt (ofL t) (i : Int) = 9 := by
        rw [hbt]
        intro q
        have : t[i]'hi' = 9 := toNat_inj.1 (show ((t[i]'hi').toNat : Int) = ((9 : UInt8).toNat : Int) from q)
        rw [this] at hb0
        cases hb0
      have hn2 : ∀ c ∈ t.take (i + 1), blk c = false := by
        intro c hc
        rw [List.take_succ_eq_append_getElem hi', List.mem_append] at hc
        rcases hc with hc | hc
        · exact hn c hc
        · rw [List.mem_singleton] at hc
          rw [hc]
          exact hb0
      refine Ev.step (f := _) (fun k => ?_) (ih (i + 1) (by omega) hn2)
      simp only [depotref24_Parted.l0, ew, if_neg n1, if_neg n2, if_pos (show (i : Int) < ((ofL t).size : Int) by omega), if_pos (show (0 : Int) ≤ (i : Int) by omega)]
theorem RefParted_ev (l : B) (h : l.length ≤ 1000000000) : Ev (fun k => depotref24_Parted.f k (ofL l)) (ofL (wordM (trimM l)), ofL (restM (trimM l))) := by
  unfold depotref24_Parted.f depotref21_Trim.f
  refine Ev.bind (rtrim_ev l h) ?_
  have := trim_le l
  exact parted_ev (trimM l) (by omega) (trimM l).length 0 (by omega) (by simp)
theorem ofL_eq (a b : B) : ofL a = ofL b ↔ a = b := by
  constructor
  · intro h
    have := congrArg (fun x => x.data.toList) h
    simpa [ofL] using this
  · intro h; rw [h]
theorem rstep_ev (t : B) (q : Q) (hb : t.length ≤ 1048576) (hq : szQ q ≤ 1000000000) : Ev (fun k => depotref24_Read.step k (ofL (wordM t)) (ofL (restM t)) q) (stepM t q) := by
  have hwr := congrArg List.length (wd_rest t)
  rw [List.length_append] at hwr
  unfold depotref24_Read.step
  have c1 : (ofL (wordM t) = ⟨#[105, 110, 115, 116, 97, 108, 108]⟩) ↔ wordM t = wInstall := ofL_eq _ wInstall
  have c2 : (ofL (wordM t) = ⟨#[102, 111, 114, 98, 105, 100]⟩) ↔ wordM t = wForbid := ofL_eq _ wForbid
  have c3 : (ofL (wordM t) = ⟨#[112, 114, 101, 102, 101, 114]⟩) ↔ wordM t = wPrefer := ofL_eq _ wPrefer
  have c4 : (ofL (wordM t) = ⟨#[97, 118, 111, 105, 100]⟩) ↔ wordM t = wAvoid := ofL_eq _ wAvoid
  have cz : (ofL (restM t)).size = 0 ↔ restM t = [] := by
    rw [ofL_size]
    exact List.length_eq_zero_iff
  simp only [c1, c2, c3, c4, cz]
  have hrl : (ofL (restM t)).size ≤ 1048576 := by rw [ofL_size]; omega
  have hR := RefRead_ev (ofL (restM t)) hrl
  have hF := RefReadList_ev (ofL (restM t)) hrl
  rw [toL_ofL] at hR hF
  obtain ⟨p1, hR⟩ : ∃ p1, Ev (fun k => depotref22_Read.f k (ofL (restM t))) ((readM true (restM t)).1, (readM true (restM t)).2.1, p1) := ⟨_, hR⟩
  obtain ⟨p2, hF⟩ : ∃ p2, Ev (fun k => depotref22_ReadList.f k (ofL (restM t))) ((readM false (restM t)).1.flatten, (readM false (restM t)).2.1, p2) := ⟨_, hF⟩
  obtain ⟨a1, a2⟩ := readM_bd true (restM t)
  obtain ⟨b1, b2⟩ := readM_bd false (restM t)
  unfold szQ at hq
  unfold stepM
  by_cases h4 : wordM t = wInstall ∨ wordM t = wForbid ∨ wordM t = wPrefer ∨ wordM t = wAvoid
  · simp only [if_neg (show ¬ ¬ (wordM t = wInstall ∨ wordM t = wForbid ∨ wordM t = wPrefer ∨ wordM t = wAvoid) from fun h => h h4)]
    by_cases hz : restM t = []
    · simp only [if_pos hz]
      exact Ev.now _
    simp only [if_neg hz]
    by_cases k1 : wordM t = wInstall
    · simp only [if_pos k1]
      refine Ev.bind hR ?_
      simp only [if_pos (show (q.1.length + (readM true (restM t)).1.length) * 24 ≤ 140737488355328 by omega)]
      exact Ev.now _
    simp only [if_neg k1]
    by_cases k2 : wordM t = wForbid
    · simp only [if_pos k2]
      refine Ev.bind hF ?_
      simp only [if_pos (show (q.2.1.length + (readM false (restM t)).1.flatten.length) * 40 ≤ 140737488355328 by omega)]
      exact Ev.now _
    simp only [if_neg k2]
    by_cases k3 : wordM t = wPrefer
    · simp only [if_pos k3]
      refine Ev.bind hF ?_
      simp only [if_pos (show (q.2.2.length + (readM false (restM t)).1.flatten.length) * 48 ≤ 140737488355328 by omega)]
      exact Ev.now _
    simp only [if_neg k3]
    have k4 : wordM t = wAvoid := by
      rcases h4 with h | h | h | h
      · exact absurd h k1
      · exact absurd h k2
      · exact absurd h k3
      · exact h
    simp only [if_pos k4]
    refine Ev.bind hF ?_
    simp only [if_pos (show (q.2.2.length + (readM false (restM t)).1.flatten.length) * 48 ≤ 140737488355328 by omega)]
    exact Ev.now _
  · simp only [if_pos h4]
    have n1 := not_or.1 h4
    have n2 := not_or.1 n1.2
    have n3 := not_or.1 n2.2
    simp only [if_neg n1.1, if_neg n2.1, if_neg n3.1, if_neg n3.2, ite_self]
    exact Ev.now _
theorem ridle (t : B) : depotref24_Read.idle (ofL (wordM t)) = idleM t ∨ ∃ c r, t = c :: r ∧ blk c = true := by
  cases t with
  | nil => left; rfl
  | cons c r =>
    by_cases h : blk c = true
    · exact .inr ⟨c, r, rfl, h⟩
    · left
      unfold wordM depotref24_Read.idle
      rw [toL_ofL, List.takeWhile_cons_of_pos (by simp [h])]
      rfl
theorem trim_head (l : B) : ∀ c r, trimM l = c :: r → blk c = false := by
  intro c r h
  unfold trimM Lib.trimS Lib.trimLeftS at h
  have := List.head_dropWhile_not (fun x => ([32, 9] : B).contains x) (by rw [h]; simp) (l := Lib.trimRightS l [32, 9])
  simp only [h, List.head_cons] at this
  rw [blk_eq] at this
  simpa using this
theorem rlinesM_ev : ∀ (ls : List B) (i : Nat) (q : Q), (∀ l ∈ ls, l.length ≤ 1048576) → szQ q + ((ls.map List.length).sum) ≤ 1000000000 → Ev (fun k => depotref24_Read.lines k (ls.map ofL) i q) (linesM ls i q)
  | [], i, q, _, _ => Ev.now _
  | l :: ls, i, q, hm, h => by
    rw [List.map_cons, List.sum_cons] at h
    have ht := trim_le l
    have hl := hm l (List.mem_cons_self)
    simp only [depotref24_Read.lines, List.map_cons, linesM]
    refine Ev.bind (RefParted_ev l (by omega)) ?_
    have hid : depotref24_Read.idle (ofL (wordM (trimM l))) = idleM (trimM l) := by
      rcases ridle (trimM l) with h | ⟨c, r, e, h⟩
      · exact h
      · rw [trim_head l c r e] at h
        cases h
    simp only [hid]
    by_cases hi : idleM (trimM l) = true
    · simp only [if_pos hi]
      exact rlinesM_ev ls (i + 1) q (fun x hx => hm x (List.mem_cons_of_mem _ hx)) (by omega)
    · simp only [if_neg hi]
      have hsz := step_sz (trimM l) q
      refine Ev.bind (rstep_ev (trimM l) q (by omega) (by omega)) ?_
      by_cases he : (stepM (trimM l) q).2 = 0
      · simp only [if_pos he]
        exact rlinesM_ev ls (i + 1) _ (fun x hx => hm x (List.mem_cons_of_mem _ hx)) (by omega)
      · simp only [if_neg he]
        exact Ev.now _
theorem cut_sum : ∀ (l cur : B), ((cutL cur l).map List.length).sum ≤ cur.length + l.length ∧ (cutL cur l).length ≤ l.length + 1
  | [], cur => by
    unfold cutL
    split <;> simp
  | c :: r, cur => by
    unfold cutL
    split
    · have := cut_sum r []
      simp only [List.map_cons, List.sum_cons, List.length_cons, List.length_nil] at this ⊢
      omega
    · have := cut_sum r (cur ++ [c])
      simp only [List.length_append, List.length_cons, List.length_nil] at this ⊢
      omega
theorem sum_mem {l : B} : ∀ {ls : List B}, l ∈ ls → l.length ≤ (ls.map List.length).sum
  | x :: xs, h => by
    rw [List.map_cons, List.sum_cons]
    rcases List.mem_cons.1 h with rfl | h
    · omega
    · have := sum_mem h
      omega
theorem RefReq_ev (s : ByteArray) (hb : s.size ≤ 1048576) : Ev (fun k => depotref24_Read.f k s) (reqM s.data.toList) := by
  unfold depotref24_Read.f
  refine Ev.bind (RefLines_ev s (by omega)) ?_
  obtain ⟨h1, h2⟩ := cut_sum s.data.toList []
  have h3 : s.data.toList.length = s.size := by simp
  rw [List.length_nil] at h1
  simp only [List.length_map, if_pos (show (cutL [] s.data.toList).length < 1099511627776 by omega)]
  rw [← cut_lines]
  refine rlinesM_ev _ 0 ([], [], []) (fun l hl => ?_) ?_
  · have := sum_mem hl
    omega
  · simp only [szQ, List.length_nil]
    omega
end Go.Proofs.YtmocooihkobdjaaDoor.Model
end
section
set_option linter.unusedVariables false
set_option linter.unusedSimpArgs false
namespace Go.Proofs.YtmocooihkobdjaaDoor.Model
open Go.RowKit Go.Proofs.YtmocooihkobdjaaDoor.Q Go.Proofs.YtmocooihkobdjaaDoorW.PrintWords Go.Proofs.YtmocooihkobdjaaDoorW.PrintLast Go.Proofs.YtmocooihkobdjaaDoor.Ver
def mQ (L : List (List S46)) (F : List S46) (W : List S48) : Nat := L.length + L.flatten.length + F.length + W.length
theorem step_m (t : B) (q : Q) : mQ (stepM t q).1.1 (stepM t q).1.2.1 (stepM t q).1.2.2 ≤ mQ q.1 q.2.1 q.2.2 + 2 * t.length := by
  have hr := rest_le t
  obtain ⟨a1, a2⟩ := readM_bd true (restM t)
  obtain ⟨b1, b2⟩ := readM_bd false (restM t)
  unfold stepM mQ
  split
  · simp
  split
  · simp only [List.length_append, List.flatten_append]; omega
  split
  · simp only [List.length_append]; omega
  split
  · simp only [List.length_append, wishL, List.length_map]; omega
  split
  · simp only [List.length_append, wishL, List.length_map]; omega
  · simp
theorem lines_m : ∀ (ls : List B) (i : Nat) (q : Q), mQ (linesM ls i q).1 (linesM ls i q).2.1 (linesM ls i q).2.2.1 ≤ mQ q.1 q.2.1 q.2.2 + 2 * (ls.map List.length).sum
  | [], i, q => by simp [linesM]
  | l :: ls, i, q => by
    rw [List.map_cons, List.sum_cons]
    have ht := trim_le l
    unfold linesM
    split
    · have := lines_m ls (i + 1) q
      omega
    · split
      · have h1 := lines_m ls (i + 1) (stepM (trimM l) q).1
        have h2 := step_m (trimM l) q
        omega
      · simp [mQ]
theorem reqM_m (l : B) : mQ (reqM l).1 (reqM l).2.1 (reqM l).2.2.1 ≤ 2 * l.length := by
  have h1 := lines_m (splitL l) 0 ([], [], [])
  have h2 := split_sum l
  unfold reqM
  simp only [mQ, List.length_nil, List.flatten_nil] at h1 ⊢
  omega
theorem mem_flat {m : List S46} : ∀ {L : List (List S46)}, m ∈ L → m.length ≤ L.flatten.length
  | x :: xs, h => by
    rw [List.flatten_cons, List.length_append]
    rcases List.mem_cons.1 h with rfl | h
    · omega
    · have := mem_flat h
      omega
end Go.Proofs.YtmocooihkobdjaaDoor.Model
end
section
namespace Go.Proofs.YtmocooihkobdjaaDoor.Model
open Go.RowKit Go.Proofs.YtmocooihkobdjaaDoor.Q
end Go.Proofs.YtmocooihkobdjaaDoor.Model
end
section
set_option linter.unusedVariables false
set_option linter.unusedSimpArgs false
namespace Go.Proofs.YtmocooihkobdjaaDoor.Model
open Go.RowKit Go.Proofs.YtmocooihkobdjaaDoor.Q Go.Proofs.YtmocooihkobdjaaDoorW.PrintWords Go.Proofs.YtmocooihkobdjaaDoorW.PrintLast Go.Proofs.YtmocooihkobdjaaDoor.Ver
end Go.Proofs.YtmocooihkobdjaaDoor.Model
end
section
set_option linter.unusedVariables false
set_option linter.unusedSimpArgs false
namespace Go.Proofs.YtmocooihkobdjaaDoor.Model
open Go.RowKit Go.Proofs.YtmocooihkobdjaaDoor.Q Go.Proofs.YtmocooihkobdjaaDoorW.PrintWords Go.Proofs.YtmocooihkobdjaaDoorW.PrintLast Go.Proofs.YtmocooihkobdjaaDoor.Ver
theorem samerels_self (l : List S46) (hl : l.length ≤ 140737488351232) : Ev (fun k => depotref00_SameRels.f k l l) true := by
  have key : ∀ (d i : Nat), i + d = l.length → Ev (fun k => depotref00_SameRels.l0 k l l (i : Int)) true := by
    intro d
    induction d with
    | zero =>
      intro i hi
      refine Ev.step (f := fun _ => some true) (fun k => ?_) (Ev.now _)
      simp only [depotref00_SameRels.l0]
      rw [if_neg (by omega)]
    | succ d ih =>
      intro i hi
      have ew : wrap64 ((i : Int) + 1) = ((i + 1 : Nat) : Int) := by rw [wrap_id (by omega) (by omega)]; omega
      refine Ev.step (f := fun k => depotref00_SameRels.l0 k l l ((i + 1 : Nat) : Int)) (fun k => ?_) (ih (i + 1) (by omega))
      simp only [depotref00_SameRels.l0, ew, if_pos (show (i : Int) < l.length by omega), if_pos (show (0 : Int) ≤ i by omega)]
      simp
  unfold depotref00_SameRels.f
  simp only [if_true]
  exact key l.length 0 (by omega)
theorem samelists_self (l : List (List S46)) (hl : l.length ≤ 140737488351232) (hin : ∀ m ∈ l, m.length ≤ 140737488351232) : Ev (fun k => depotref00_SameLists.f k l l) true := by
  have key : ∀ (d i : Nat), i + d = l.length → Ev (fun k => depotref00_SameLists.l0 k l l (i : Int)) true := by
    intro d
    induction d with
    | zero =>
      intro i hi
      refine Ev.step (f := fun _ => some true) (fun k => ?_) (Ev.now _)
      simp only [depotref00_SameLists.l0]
      rw [if_neg (by omega)]
    | succ d ih =>
      intro i hi
      have ew : wrap64 ((i : Int) + 1) = ((i + 1 : Nat) : Int) := by rw [wrap_id (by omega) (by omega)]; omega
      refine Ev.step (f := fun k => (depotref00_SameRels.f k (rd_L3 l (i : Int)) (rd_L3 l (i : Int))).bind fun t198 => (if t198 = true then (depotref00_SameLists.l0 k l l ((i + 1 : Nat) : Int)) else (some false))) (fun k => ?_) ?_
      · simp only [depotref00_SameLists.l0, ew, if_pos (show (i : Int) < l.length by omega), if_pos (show (0 : Int) ≤ i by omega)]
      · have hi' : i < l.length := by omega
        rw [rd_at hi']
        refine Ev.bind (samerels_self _ (hin _ (List.getElem_mem hi'))) ?_
        simp only [if_true]
        exact ih (i + 1) (by omega)
  unfold depotref00_SameLists.f
  simp only [if_true]
  exact key l.length 0 (by omega)
theorem samewishes_self (l : List S48) (hl : l.length ≤ 140737488351232) : Ev (fun k => depotref00_SameWishes.f k l l) true := by
  have key : ∀ (d i : Nat), i + d = l.length → Ev (fun k => depotref00_SameWishes.l0 k l l (i : Int)) true := by
    intro d
    induction d with
    | zero =>
      intro i hi
      refine Ev.step (f := fun _ => some true) (fun k => ?_) (Ev.now _)
      simp only [depotref00_SameWishes.l0]
      rw [if_neg (by omega)]
    | succ d ih =>
      intro i hi
      have ew : wrap64 ((i : Int) + 1) = ((i + 1 : Nat) : Int) := by rw [wrap_id (by omega) (by omega)]; omega
      refine Ev.step (f := fun k => depotref00_SameWishes.l0 k l l ((i + 1 : Nat) : Int)) (fun k => ?_) (ih (i + 1) (by omega))
      simp only [depotref00_SameWishes.l0, ew, if_pos (show (i : Int) < l.length by omega), if_pos (show (0 : Int) ≤ i by omega)]
      simp
  unfold depotref00_SameWishes.f
  simp only [if_true]
  exact key l.length 0 (by omega)
theorem samereq_self (L : List (List S46)) (F : List S46) (W : List S48) (hL : L.length ≤ 4000000) (hin : ∀ m ∈ L, m.length ≤ 4000000) (hF : F.length ≤ 4000000) (hW : W.length ≤ 4000000) : Ev (fun k => depotref00_SameRequest.f k L F W L F W) true := by
  unfold depotref00_SameRequest.f
  refine Ev.bind (samelists_self L (by omega) (fun m hm => by have := hin m hm; omega)) ?_
  simp only [if_true]
  refine Ev.bind (samerels_self F (by omega)) ?_
  simp only [if_true]
  exact Ev.bind (samewishes_self W (by omega)) (Ev.now _)
end Go.Proofs.YtmocooihkobdjaaDoor.Model
end
section
set_option linter.unusedVariables false
set_option linter.unusedSimpArgs false
namespace Go.Proofs.YtmocooihkobdjaaDoor.Model
open Go.RowKit Go.Proofs.YtmocooihkobdjaaDoor.Q Go.Proofs.YtmocooihkobdjaaDoorW.PrintWords Go.Proofs.YtmocooihkobdjaaDoorW.PrintLast Go.Proofs.YtmocooihkobdjaaDoor.Ver
theorem one_forbid : reqM [102, 111, 114, 98, 105, 100, 32, 97, 97] = ([], [⟨ofL [97, 97], 0, ⟨#[]⟩⟩], [], 0, 0) := by kernel_rfl
theorem requestReads_ev (s : ByteArray) (hs : s.size ≤ 1048576) : Ev (fun k => depotlaw24_RequestReads.f k s) true := by
  have hm := reqM_m s.data.toList
  have hl : s.data.toList.length = s.size := by simp
  have h1 := Req_ev s (by omega)
  have h2 := RefReq_ev s hs
  have h3 := Req_ev ⟨#[102, 111, 114, 98, 105, 100, 32, 97, 97]⟩ (by decide)
  rw [show (⟨#[102, 111, 114, 98, 105, 100, 32, 97, 97]⟩ : ByteArray).data.toList = [102, 111, 114, 98, 105, 100, 32, 97, 97] from rfl, one_forbid] at h3
  obtain ⟨⟨L, F, W, er, p⟩, hR⟩ : ∃ x, reqM s.data.toList = x := ⟨_, rfl⟩
  rw [hR] at h1 h2 hm
  simp only [mQ] at hm
  have hsame := samereq_self L F W (by omega) (fun m hx => by have := mem_flat hx; omega) (by omega) (by omega)
  unfold depotlaw24_RequestReads.f
  refine Ev.bind h1 ?_
  refine Ev.bind h2 ?_
  refine Ev.bind h3 ?_
  simp only [if_true]
  refine Ev.bind hsame ?_
  simp only [if_true]
  exact Ev.now _
end Go.Proofs.YtmocooihkobdjaaDoor.Model
end
section
namespace Go.Proofs.YtmocooihkobdjaaDoor.requestReads
open Go.ChangeShapes Go.WideShapes Go.ChangeAt Go.RowKit
open Go.ChangeMaps (open_string shut_string)
set_option linter.unusedVariables false
set_option linter.unusedSimpArgs false
theorem own : ownKnob Tryd.prog.godebug = none := by kernel_rfl
set_option maxRecDepth 100000 in
theorem contract (H : Type) (enc : TypeId × Value → H) (W : World) (base : Nat) (args : Array Value) (ds gs : List (DataW H)) (before : List MemPlace)
    (hval : ∀ (j : Nat) t v, Tryd.f6.params[j]? = some t → args[j]? = some v → Value.okWide Tryd.prog W .any base t v)
    (hW : DataW.Whole enc Tryd.prog Tryd.f6.params.toList Rows.requestReadsSpec.vars false W args.toList ds gs before) (hL : laidMetH Tryd.prog Rows.requestReadsUptoRow.laid W) (hSh : W.ShapedOpen Tryd.prog) (hc : Rows.uptoSmall H (ds ++ gs) = true) :
    Calls Tryd.prog 6 args W fun e W' => ∃ v, e = .returned v ∧ Rows.requestReadsSpec.post enc Tryd.prog Tryd.f6 false true false false W args v W' := by
  have hW' := hW
  obtain ⟨p, q, hA0, hV, rfl, hfz, hnd⟩ := hW
  have hA : DataW.TrodAll enc Tryd.prog W 0 (fun _ => true) true Tryd.f6.params.toList args.toList ds p := hA0
  rw [Tryd.params6] at hA hval
  obtain ⟨v0, vs0, d0, ds0, p0, q0, hargs, rfl, rfl, h0, r0⟩ := trodAll_cons hA
  obtain ⟨rfl, rfl, rfl⟩ := trodAll_nil r0
  obtain rfl : args = #[v0] := Array.ext' hargs
  obtain ⟨rfl, rfl⟩ := trodVars_none hV
  have z := of_decide_eq_true hc
  simp only [List.append_nil, List.cons_append, List.nil_append, Rows.uptoBulkAll] at z
  obtain ⟨a0, rfl, rfl, rfl, y0⟩ := open_string Tryd.underlying9 (hval 0 9 v0 rfl rfl) h0
  have w0 : a0.size ≤ 1048576 := by
    (try simp only [Rows.uptoBulk, Array.length_toList] at z)
    have : a0.data.size = a0.size := rfl
    omega
  clear hA0
  obtain ⟨k, hk⟩ := (Model.requestReads_ev a0 w0).rounds
  refine (Q.depotlaw24_RequestReads.calls k a0 true W (GG_of hL hSh) hk rfl).mono fun e W' ⟨he, bel⟩ => ?_
  subst he
  exact ⟨_, rfl, _, _, _, [], _, [], hW', trodAll_mk1 (shut_bool Tryd.underlying4 _), (trodAll_cons_mk (shut_string Tryd.underlying9 y0) trodAll_mk0), rfl, bel.frame _, fun h => by cases h⟩
noncomputable def laidWorld (os : Os) : World := wholeWorld os
theorem laid_met (os : Os) : laidMet Tryd.prog Rows.requestReadsUptoRow.laid ((laidWorld os).forCall (fun _ _ => 0) ⟨#[], #[.string ByteArray.empty], []⟩).memory :=
  laidMet_of_run' 8 (by kernel_rfl) (by kernel_rfl)
theorem reads (os : Os) {H : Type} (enc : TypeId × Value → H) : ∃ places, DataW.whole enc Tryd.prog ((laidWorld os).forCall (fun _ _ => 0) ⟨#[], #[.string ByteArray.empty], []⟩).memory Tryd.f6.params.toList Rows.requestReadsSpec.vars false (#[.string ByteArray.empty] : Array Value).toList 8 = some ([.lit (.string [])], [], places) :=
  ⟨[], by kernel_rfl⟩
set_option maxRecDepth 100000 in
theorem lifted (os : Os) (started : os.Started) (H : Type) (enc : TypeId × Value → H) (F : Stop.Interp) :
    ReturnsInHanded {} Tryd.checked os 6 .any ((Rows.OpenSpec.upto Rows.requestReadsSpec).preRow enc Tryd.prog Tryd.f6 Rows.requestReadsUptoRow.domain false Rows.requestReadsUptoRow.laid) (((Rows.OpenSpec.upto Rows.requestReadsSpec).at F).post enc Tryd.prog Tryd.f6 false true false false) := by
  obtain ⟨places, hx⟩ := reads os enc
  refine returnsInHanded_of_row (C := Tryd.checked) (s := Rows.OpenSpec.upto Rows.requestReadsSpec) own started (by kernel_rfl) Tryd.func6
    (witness_row_at (enc := enc) (C := Tryd.checked) false (laidWorld os) #[.string ByteArray.empty] rfl (by kernel_rfl) (by kernel_rfl) (by kernel_rfl)
      (OpenSpec.preRow_of_cond 8 hx (by kernel_rfl) (fun k hk => by cases hk; kernel_rfl) (by kernel_rfl) (laid_met os))) ?_
  intro W base args ds gs before hval hW _ hc _ hL hSh _
  exact contract H enc W base args ds gs before hval hW hL hSh (hc _ rfl)
theorem said : Rows.RequestReadsUptoSaid :=
  OpenClaim.holds_of_cond 6 Tryd.f6 rfl rfl rfl rfl rfl rfl rfl ⟨rfl, rfl, rfl, rfl, rfl⟩ rfl rfl rfl rfl rfl (by kernel_rfl) Tryd.func6 (by kernel_rfl)
    (of_decide_eq_true (by kernel_rfl)) (by unfold Func.isWrapper; first | (rw [if_pos (by decide +kernel)]; kernel_rfl) | (rw [if_neg (by decide +kernel)]; exact ⟨rfl, rfl⟩))
    (fun os started H enc _ F => by rw [OpenClaim.pre_eq_preRow]; exact lifted os started H enc F)
theorem plain (f : FuncId) (fn : Func) (hf : Tryd.pinned.checked.prog.funcNamed "depot/depotlaw24.RequestReads" = some f) (hfn : Tryd.pinned.checked.prog.funcs[f]? = some fn) :
    true = Tryd.pinned.checked.prog.looks [] ∧ ∀ (j : Nat) t, fn.params[j]? = some t → Tryd.pinned.checked.prog.wantsStandIn t = false := by
  obtain rfl : f = 6 := Option.some.inj ((show Tryd.prog.funcNamed "depot/depotlaw24.RequestReads" = some 6 by kernel_rfl).symm.trans hf) |>.symm
  obtain rfl : fn = Tryd.f6 := (Option.some.inj (Tryd.func6.symm.trans hfn)).symm
  refine ⟨by kernel_rfl, fun j t ht => ?_⟩
  rw [Tryd.params6] at ht
  have h9 : Tryd.prog.wantsStandIn 9 = false := by kernel_rfl
  have hm := Array.mem_of_getElem? ht
  have : t = 9 := by simpa using hm
  rw [this]; exact h9
theorem card : Rows.RequestReadsUptoCardSaid :=
  Claim7.holds_tied_plain_at .later [] _ _ _ _ said (fun _ h => by cases h) (by kernel_rfl) (fun _ h => by cases h) requestReadsUpto_row_tie rfl ⟨rfl, rfl⟩ (by kernel_rfl) rfl plain (by kernel_rfl)
#print axioms card
end Go.Proofs.YtmocooihkobdjaaDoor.requestReads
namespace Go.Proofs.YtmocooihkobdjaaDoor
theorem requestReads_holds : Rows.RequestReadsUptoCardSaid := requestReads.card
end Go.Proofs.YtmocooihkobdjaaDoor
end
