/-
  RelationReads (P22.2) as plain Lean, for every text of at most 2^20 bytes.
-/
import Derived.Test.YtphabealejpfnaaDoorReadLists
set_option linter.unusedVariables false
set_option linter.unusedSimpArgs false
namespace Go.Proofs.YtphabealejpfnaaDoor.Read
open Go.RowKit Go.Proofs.YtphabealejpfnaaDoor.R Go.Proofs.YtphabealejpfnaaDoorW.PrintWords Go.Proofs.YtphabealejpfnaaDoorW.PrintLast Go.Proofs.YtphabealejpfnaaDoor.Ver

theorem same_self (l : List S23) (hl : l.length ≤ 1048576) : Ev (fun k => depotlaw22_same.f k l l) true := by
  have key : ∀ (d i : Nat), i + d = l.length → Ev (fun k => depotlaw22_same.l0 k l l (i : Int)) true := by
    intro d
    induction d with
    | zero =>
      intro i hi
      refine Ev.step (f := fun _ => some true) (fun k => ?_) (Ev.now _)
      simp only [depotlaw22_same.l0]
      rw [if_neg (by omega)]
    | succ d ih =>
      intro i hi
      have ew : wrap64 ((i : Int) + 1) = ((i + 1 : Nat) : Int) := by rw [wrap_id (by omega) (by omega)]; omega
      refine Ev.step (f := fun k => depotlaw22_same.l0 k l l ((i + 1 : Nat) : Int)) (fun k => ?_) (ih (i + 1) (by omega))
      simp only [depotlaw22_same.l0, ew, if_pos (show (i : Int) < l.length by omega), if_pos (show (0 : Int) ≤ i by omega)]
      simp
  unfold depotlaw22_same.f
  simp only [if_true]
  exact key l.length 0 (by omega)
theorem alike_self (l : List (List S23)) (hl : l.length ≤ 1048576) (hin : ∀ x : Nat, (rd_L7 l (x : Int)).length ≤ 1048576) : Ev (fun k => depotlaw22_alike.f k l l) true := by
  have key : ∀ (d i : Nat), i + d = l.length → Ev (fun k => depotlaw22_alike.l0 k l l (i : Int)) true := by
    intro d
    induction d with
    | zero =>
      intro i hi
      refine Ev.step (f := fun _ => some true) (fun k => ?_) (Ev.now _)
      simp only [depotlaw22_alike.l0]
      rw [if_neg (by omega)]
    | succ d ih =>
      intro i hi
      have ew : wrap64 ((i : Int) + 1) = ((i + 1 : Nat) : Int) := by rw [wrap_id (by omega) (by omega)]; omega
      refine Ev.step (f := fun k => (depotlaw22_same.f k (rd_L7 l (i : Int)) (rd_L7 l (i : Int))).bind fun t198 => (if t198 = true then (depotlaw22_alike.l0 k l l ((i + 1 : Nat) : Int)) else (some false))) (fun k => ?_) ?_
      · simp only [depotlaw22_alike.l0, ew, if_pos (show (i : Int) < l.length by omega), if_pos (show (0 : Int) ≤ i by omega)]
      · refine Ev.bind (same_self _ (hin i)) ?_
        simp only [if_true]
        exact ih (i + 1) (by omega)
  unfold depotlaw22_alike.f
  simp only [if_true]
  exact key l.length 0 (by omega)
theorem row_in {L : List (List S23)} {i : Nat} (h : i < L.length) : rd_L7 L (i : Int) ∈ L := by
  unfold rd_L7
  simp only [Int.toNat_natCast, List.getD_eq_getElem?_getD, List.getElem?_eq_getElem h, Option.getD_some]
  exact List.getElem_mem h
/-- A plain list's answer, from lists of one relation each. -/
theorem flat_ev (s : ByteArray) (hb : s.size ≤ 1048576) (L : List (List S23)) (er p : Int) (hL : L.length ≤ s.size) (h1 : ∀ l ∈ L, l.length = 1) : ∀ (d i : Nat), i + d = L.length → ∀ out : List S23, out.length ≤ i → ∃ o : List S23, o.length ≤ L.length ∧
    Ev (fun k => relation_ReadList.l0 k er p out L (L.length : Int) (i : Int)) (o, er, p) ∧ Ev (fun k => depotref22_ReadList.l0 k L er p out (i : Int)) (o, er, p) := by
  intro d
  induction d with
  | zero =>
    intro i hi out ho
    refine ⟨out, by omega, ?_, ?_⟩
    · refine Ev.step (f := fun _ => some (out, er, p)) (fun k => ?_) (Ev.now _)
      simp only [relation_ReadList.l0]
      rw [if_neg (by omega)]
    · refine Ev.step (f := fun _ => some (out, er, p)) (fun k => ?_) (Ev.now _)
      simp only [depotref22_ReadList.l0]
      rw [if_neg (by omega)]
  | succ d ih =>
    intro i hi out ho
    have ew : wrap64 ((i : Int) + 1) = ((i + 1 : Nat) : Int) := by rw [wrap_id (by omega) (by omega)]; omega
    have hm := h1 _ (row_in (L := L) (i := i) (by omega))
    obtain ⟨a, ha⟩ := List.length_eq_one_iff.1 hm
    obtain ⟨o, ho1, hp, hr⟩ := ih (i + 1) (by omega) (out ++ [a]) (by simp; omega)
    refine ⟨o, ho1, ?_, ?_⟩
    · refine Ev.step (f := _) (fun k => ?_) hp
      simp only [relation_ReadList.l0, ew, ha, List.length_cons, List.length_nil, if_pos (show (i : Int) < L.length by omega), if_pos (show (0 : Int) ≤ i by omega), if_pos (show out.length + (0 + 1) < 3518437208883 by omega)]
    · refine Ev.step (f := _) (fun k => ?_) hr
      have e0 : rd_T23 [a] 0 = a := rfl
      simp only [depotref22_ReadList.l0, ew, ha, e0, List.length_cons, List.length_nil, if_pos (show (i : Int) < L.length by omega), if_pos (show (0 : Int) ≤ i by omega), if_pos (show (0 : Int) < ((0 + 1 : Nat) : Int) by omega), if_pos (show out.length < 3518437208883 by omega)]
theorem reads_ev (s : ByteArray) (hb : s.size ≤ 1048576) : Ev (fun k => depotlaw22_RelationReads.f k s) true := by
  have hs : s.size ≤ 140737488351232 := by omega
  obtain ⟨L, er, p, hL1, hL2, hp, hr⟩ := read_ev s hs hb true
  obtain ⟨M, fr, q, hM1, hM2, gp, gr⟩ := read_ev s hs hb false
  obtain ⟨o, ho, fp, fr2⟩ := flat_ev s hb M fr q hM2 (fun l hl => (hM1 l hl).1.resolve_right (by decide)) M.length 0 (by omega) [] (by simp)
  unfold depotlaw22_RelationReads.f
  refine Ev.bind (a := (L, er, p)) ?_ ?_
  · unfold relation_Read.f
    exact Ev.bind hp (Ev.now _)
  refine Ev.bind (a := (L, er, p)) ?_ ?_
  · unfold depotref22_Read.f
    exact Ev.bind hr (Ev.now _)
  simp only [if_true]
  refine Ev.bind (alike_self L (by omega) ?_) ?_
  · intro x
    by_cases hx : x < L.length
    · have := (hL1 _ (row_in hx)).2
      omega
    · unfold rd_L7
      rw [Int.toNat_natCast, List.getD_eq_getElem?_getD, List.getElem?_eq_none (by omega)]
      simp
  refine Ev.step (f := fun k => (relation_ReadList.f k s).bind fun bt229 => ((depotref22_ReadList.f k s).bind fun bt234 => (if bt229.2.1 = bt234.2.1 then (if bt229.2.2 = bt234.2.2 then ((depotlaw22_same.f k bt229.1 bt234.1).bind fun t239 => (some t239)) else (some false)) else (some false)))) (fun k => ?_) ?_
  · simp only [depotlaw22_RelationReads.j0, Bool.not_true, Bool.false_eq_true, if_false]
  refine Ev.bind (a := (o, fr, q)) ?_ ?_
  · unfold relation_ReadList.f
    exact Ev.bind gp fp
  refine Ev.bind (a := (o, fr, q)) ?_ ?_
  · unfold depotref22_ReadList.f
    exact Ev.bind gr fr2
  simp only [if_true]
  exact Ev.bind (same_self o (by omega)) (Ev.now _)
end Go.Proofs.YtphabealejpfnaaDoor.Read
