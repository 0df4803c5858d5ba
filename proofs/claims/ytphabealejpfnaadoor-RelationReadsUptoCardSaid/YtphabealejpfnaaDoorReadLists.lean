/-
  Plain Lean: lists of relations, as the program's reader takes them and as the reference does; RelationReads.
-/
import Derived.Test.YtphabealejpfnaaDoorReadOne
set_option linter.unusedVariables false
set_option linter.unusedSimpArgs false
namespace Go.Proofs.YtphabealejpfnaaDoor.Read
open Go.RowKit Go.Proofs.YtphabealejpfnaaDoor.R Go.Proofs.YtphabealejpfnaaDoorW.PrintWords Go.Proofs.YtphabealejpfnaaDoorW.PrintLast Go.Proofs.YtphabealejpfnaaDoor.Ver

/-- From within a list on: the relations of the list so far, the lists so far. -/
theorem lists_ev (s : ByteArray) (hs : s.size ≤ 140737488351232) (hb : s.size ≤ 1048576) (bars : Bool) : ∀ (d i : Nat), s.size - i < d → i ≤ s.size → ∀ (x8 : List (List S23)) (x10 : List S23), x8.length + x10.length ≤ i →
    (∀ l ∈ x8, (l.length = 1 ∨ bars = true) ∧ l.length ≤ s.size) → (x10 = [] ∨ bars = true) →
    ∃ (L : List (List S23)) (er : Int) (p : Int), (∀ l ∈ L, (l.length = 1 ∨ bars = true) ∧ l.length ≤ s.size) ∧ L.length ≤ s.size ∧
    Ev (fun k => relation_read.l1 k s bars x8 x10 true s (i : Int)) (L, er, p) ∧ Ev (fun k => depotref22_lists.l0 k s bars x8 (i : Int) x10) (L, er, p) := by
  intro d
  induction d with
  | zero => intro i hd; exact absurd hd (by omega)
  | succ d ih =>
    intro i hd hi x8 x10 hlen hx8 hx10
    obtain ⟨r1, r2, r3, er, e, he1, he2, he3, hp, hr⟩ := one_ev s hs i hi
    by_cases her : er = 0
    · subst her
      have hie := he3 rfl
      generalize hy : x10 ++ [(⟨r1, r2, r3⟩ : S23)] = y at *
      have hyl : y.length = x10.length + 1 := by rw [← hy]; simp
      have hy1 : (y.length = 1 ∨ bars = true) ∧ y.length ≤ s.size := by
        refine ⟨?_, by omega⟩
        rcases hx10 with h | h
        · left; rw [hyl, h]; rfl
        · exact .inr h
      have hP : ∀ {v}, Ev (fun k => if bars = true then ((relation_reader_takes.f k s (e : Int) 124).bind fun bt136 => (relation_read.l1 k s bars x8 y bt136.1 bt136.2.1 bt136.2.2)) else (relation_read.l1 k s bars x8 y false s (e : Int))) v → Ev (fun k => relation_read.l1 k s bars x8 x10 true s (i : Int)) v := by
        intro v h
        refine Ev.step (f := fun k => ((relation_reader_relation.f k s (i : Int)).bind fun bt126 => (if bt126.2.2.2.1 = 0 then (if x10.length < 3518437208883 then ((some (x10 ++ [(⟨bt126.1, bt126.2.1, bt126.2.2.1⟩ : S23)] : List (S23))).bind fun y133 => (if bars = true then ((relation_reader_takes.f k bt126.2.2.2.2.1 bt126.2.2.2.2.2 124).bind fun bt136 => (relation_read.l1 k s bars x8 y133 bt136.1 bt136.2.1 bt136.2.2)) else (relation_read.l1 k s bars x8 y133 false bt126.2.2.2.2.1 bt126.2.2.2.2.2))) else (none)) else (some (([] : List (List (S23))), bt126.2.2.2.1, bt126.2.2.2.2.2))))) (fun k => ?_) ?_
        · simp only [relation_read.l1, if_true]
        · refine Ev.bind hp ?_
          simp only [if_true, if_pos (show x10.length < 3518437208883 by omega), Option.bind_some, hy]
          exact h
      have hR : ∀ {b : Bool} {v}, (b = true ↔ (e < s.size ∧ bt s (e : Int) = 124 ∧ bars = true)) → Ev (fun k => depotref22_lists.j1 k s bars x8 (e : Int) y b) v → Ev (fun k => depotref22_lists.l0 k s bars x8 (i : Int) x10) v := by
        intro b v hbb h
        refine Ev.step (f := fun k => (depotref22_one.f k s (i : Int)).bind fun bt175 => (if bt175.2.2.2.1 = 0 then (if x10.length < 3518437208883 then ((some (x10 ++ [(⟨bt175.1, bt175.2.1, bt175.2.2.1⟩ : S23)] : List (S23))).bind fun y181 => (if bt175.2.2.2.2 < (s.size : Int) then (if 0 ≤ bt175.2.2.2.2 then (if (bt s bt175.2.2.2.2) = 124 then (depotref22_lists.j1 k s bars x8 bt175.2.2.2.2 y181 bars) else (depotref22_lists.j1 k s bars x8 bt175.2.2.2.2 y181 false)) else (none)) else (depotref22_lists.j1 k s bars x8 bt175.2.2.2.2 y181 false))) else (none)) else (some (([] : List (List (S23))), bt175.2.2.2.1, bt175.2.2.2.2)))) (fun k => ?_) ?_
        · simp only [depotref22_lists.l0]
        · refine Ev.bind hr ?_
          simp only [if_true, if_pos (show x10.length < 3518437208883 by omega), Option.bind_some, hy, if_pos (show (0 : Int) ≤ e by omega)]
          by_cases h1 : (e : Int) < s.size
          · simp only [if_pos h1]
            by_cases h2 : bt s (e : Int) = 124
            · simp only [if_pos h2]
              have : b = bars := by
                cases hbars : bars with
                | true => exact hbb.2 ⟨by omega, h2, hbars⟩
                | false =>
                  cases b with
                  | false => rfl
                  | true => exact absurd (hbb.1 rfl).2.2 (by rw [hbars]; decide)
              rw [this] at h
              exact h
            · simp only [if_neg h2]
              have : b = false := by
                cases b with
                | false => rfl
                | true => exact absurd (hbb.1 rfl).2.1 h2
              rw [this] at h
              exact h
          · simp only [if_neg h1]
            have : b = false := by
              cases b with
              | false => rfl
              | true => exact absurd (hbb.1 rfl).1 (by omega)
            rw [this] at h
            exact h
      by_cases hC : e < s.size ∧ bt s (e : Int) = 124 ∧ bars = true
      · obtain ⟨f, hf1, hf2, hfp, hfr⟩ := takes_yes s hs e 124 hC.1 hC.2.1
        obtain ⟨L, er, p, hL1, hL2, hLp, hLr⟩ := ih f (by omega) hf2 x8 y (by omega) hx8 (.inr hC.2.2)
        refine ⟨L, er, p, hL1, hL2, hP ?_, hR (b := true) ⟨fun _ => hC, fun _ => rfl⟩ ?_⟩
        · simp only [if_pos hC.2.2]
          exact Ev.bind hfp hLp
        · refine Ev.step (f := fun k => (depotref22_behind.f k s (wrap64 ((e : Int) + 1))).bind fun t184 => (depotref22_lists.l0 k s bars x8 t184 y)) (fun k => ?_) (Ev.bind hfr hLr)
          simp only [depotref22_lists.j1, if_true]
      · have hP2 : ∀ {v}, Ev (fun k => relation_read.l1 k s bars x8 y false s (e : Int)) v → Ev (fun k => relation_read.l1 k s bars x8 x10 true s (i : Int)) v := by
          intro v h
          refine hP ?_
          by_cases hbars : bars = true
          · simp only [if_pos hbars]
            refine Ev.bind (takes_no s e 124 he2 ?_) h
            by_cases h1 : e = s.size
            · exact .inl h1
            · exact .inr fun h2 => hC ⟨by omega, h2, hbars⟩
          · simp only [if_neg hbars]
            exact h
        have hR2 : ∀ {v}, Ev (fun k => if (e : Int) = (s.size : Int) then (some (x8 ++ [y], (0 : Int), (0 : Int))) else (if 0 ≤ (e : Int) then (if (e : Int) < (s.size : Int) then (if (bt s e) = 44 then ((depotref22_behind.f k s (wrap64 ((e : Int) + 1))).bind fun t188 => (depotref22_lists.l0 k s bars (x8 ++ [y]) t188 ([] : List (S23)))) else (some (([] : List (List (S23))), 220, (e : Int)))) else (none)) else (none))) v → Ev (fun k => depotref22_lists.l0 k s bars x8 (i : Int) x10) v := by
          intro v h
          refine hR (b := false) ⟨fun q => absurd q (by decide), fun q => absurd q hC⟩ ?_
          refine Ev.step (f := _) (fun k => ?_) h
          simp only [depotref22_lists.j1, Bool.false_eq_true, if_false, if_pos (show x8.length < 5864062014805 by omega), Option.bind_some]
        have hP3 : ∀ {v}, Ev (fun k => (relation_reader_takes.f k s (e : Int) 44).bind fun bt123 => (relation_read.l0 k s bars (x8 ++ [y]) bt123.1 bt123.2.1 bt123.2.2)) v → Ev (fun k => relation_read.l1 k s bars x8 x10 true s (i : Int)) v := by
          intro v h
          refine hP2 (Ev.step (f := _) (fun k => ?_) h)
          simp only [relation_read.l1, Bool.false_eq_true, if_false, if_pos (show x8.length < 5864062014805 by omega)]
        have hx8y : ∀ l ∈ x8 ++ [y], (l.length = 1 ∨ bars = true) ∧ l.length ≤ s.size := by
          intro l hl
          rcases List.mem_append.1 hl with h | h
          · exact hx8 l h
          · rw [List.mem_singleton.1 h]; exact hy1
        have hlen8 : (x8 ++ [y]).length = x8.length + 1 := by simp
        by_cases h1 : e = s.size
        · refine ⟨x8 ++ [y], 0, 0, hx8y, by omega, hP3 ?_, hR2 ?_⟩
          · refine Ev.bind (takes_no s e 44 he2 (.inl h1)) ?_
            refine Ev.step (f := fun _ => some (x8 ++ [y], 0, 0)) (fun k => ?_) (Ev.now _)
            simp only [relation_read.l0, Bool.false_eq_true, if_false, if_neg (show ¬ (e : Int) < s.size by omega)]
          · simp only [if_pos (show (e : Int) = s.size by omega)]
            exact Ev.now _
        · by_cases h2 : bt s (e : Int) = 44
          · obtain ⟨f, hf1, hf2, hfp, hfr⟩ := takes_yes s hs e 44 (by omega) h2
            obtain ⟨L, er, p, hL1, hL2, hLp, hLr⟩ := ih f (by omega) hf2 (x8 ++ [y]) [] (by rw [hlen8]; simp only [List.length_nil]; omega) hx8y (.inl rfl)
            refine ⟨L, er, p, hL1, hL2, hP3 ?_, hR2 ?_⟩
            · refine Ev.bind hfp ?_
              refine Ev.step (f := _) (fun k => ?_) hLp
              simp only [relation_read.l0, if_true]
            · simp only [if_neg (show ¬ (e : Int) = s.size by omega), if_pos (show (0 : Int) ≤ e by omega), if_pos (show (e : Int) < s.size by omega), if_pos h2]
              exact Ev.bind hfr hLr
          · refine ⟨[], 220, e, by simp, by simp, hP3 ?_, hR2 ?_⟩
            · refine Ev.bind (takes_no s e 44 he2 (.inr h2)) ?_
              refine Ev.step (f := fun _ => some ([], 220, (e : Int))) (fun k => ?_) (Ev.now _)
              simp only [relation_read.l0, Bool.false_eq_true, if_false, if_pos (show (e : Int) < s.size by omega)]
            · simp only [if_neg (show ¬ (e : Int) = s.size by omega), if_pos (show (0 : Int) ≤ e by omega), if_pos (show (e : Int) < s.size by omega), if_neg h2]
              exact Ev.now _
    · refine ⟨[], er, e, by simp, by simp, ?_, ?_⟩
      · refine Ev.step (f := fun k => ((relation_reader_relation.f k s (i : Int)).bind fun bt126 => (if bt126.2.2.2.1 = 0 then (if x10.length < 3518437208883 then ((some (x10 ++ [(⟨bt126.1, bt126.2.1, bt126.2.2.1⟩ : S23)] : List (S23))).bind fun y133 => (if bars = true then ((relation_reader_takes.f k bt126.2.2.2.2.1 bt126.2.2.2.2.2 124).bind fun bt136 => (relation_read.l1 k s bars x8 y133 bt136.1 bt136.2.1 bt136.2.2)) else (relation_read.l1 k s bars x8 y133 false bt126.2.2.2.2.1 bt126.2.2.2.2.2))) else (none)) else (some (([] : List (List (S23))), bt126.2.2.2.1, bt126.2.2.2.2.2))))) (fun k => ?_) ?_
        · simp only [relation_read.l1, if_true]
        · refine Ev.bind hp ?_
          simp only [if_neg her]
          exact Ev.now _
      · refine Ev.step (f := fun k => (depotref22_one.f k s (i : Int)).bind fun bt175 => (if bt175.2.2.2.1 = 0 then (if x10.length < 3518437208883 then ((some (x10 ++ [(⟨bt175.1, bt175.2.1, bt175.2.2.1⟩ : S23)] : List (S23))).bind fun y181 => (if bt175.2.2.2.2 < (s.size : Int) then (if 0 ≤ bt175.2.2.2.2 then (if (bt s bt175.2.2.2.2) = 124 then (depotref22_lists.j1 k s bars x8 bt175.2.2.2.2 y181 bars) else (depotref22_lists.j1 k s bars x8 bt175.2.2.2.2 y181 false)) else (none)) else (depotref22_lists.j1 k s bars x8 bt175.2.2.2.2 y181 false))) else (none)) else (some (([] : List (List (S23))), bt175.2.2.2.1, bt175.2.2.2.2)))) (fun k => ?_) ?_
        · simp only [depotref22_lists.l0]
        · refine Ev.bind hr ?_
          simp only [if_neg her]
          exact Ev.now _
/-- The whole: any text's lists, or the error and its place. -/
theorem read_ev (s : ByteArray) (hs : s.size ≤ 140737488351232) (hb : s.size ≤ 1048576) (bars : Bool) : ∃ (L : List (List S23)) (er : Int) (p : Int), (∀ l ∈ L, (l.length = 1 ∨ bars = true) ∧ l.length ≤ s.size) ∧ L.length ≤ s.size ∧
    Ev (fun k => relation_read.f k s bars) (L, er, p) ∧ Ev (fun k => depotref22_lists.f k s bars) (L, er, p) := by
  obtain ⟨i, h1, h2, hp, hr⟩ := gaps_ev s hs s.size 0 (by omega)
  unfold relation_read.f depotref22_lists.f
  by_cases he : i = s.size
  · refine ⟨[], 0, 0, by simp, by simp, ?_, ?_⟩
    · refine Ev.bind hp ?_
      simp only [if_pos (show (i : Int) = s.size by omega)]
      exact Ev.now _
    · refine Ev.bind hr ?_
      simp only [if_pos (show (i : Int) = s.size by omega)]
      exact Ev.now _
  · obtain ⟨L, er, p, hL1, hL2, hLp, hLr⟩ := lists_ev s hs hb bars (s.size - i + 1) i (by omega) h2 [] [] (by simp) (by simp) (.inl rfl)
    refine ⟨L, er, p, hL1, hL2, ?_, ?_⟩
    · refine Ev.bind hp ?_
      simp only [if_neg (show ¬ (i : Int) = s.size by omega)]
      refine Ev.step (f := _) (fun k => ?_) hLp
      simp only [relation_read.l0, if_true]
    · refine Ev.bind hr ?_
      simp only [if_neg (show ¬ (i : Int) = s.size by omega)]
      exact hLr
end Go.Proofs.YtphabealejpfnaaDoor.Read
