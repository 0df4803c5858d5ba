/-
  RelationThere (P22.3, P22.5) as plain Lean, for all lists of a measure of at most 2^20.
-/
import Derived.Test.YtphabealejpfnaaDoorZyFnWriteList
import Derived.Test.YtphabealejpfnaaDoorZyFnCopies
import Derived.Test.YtphabealejpfnaaDoorZyFnFlat
import Derived.Test.YtphabealejpfnaaDoorZyFnAlike
import Derived.Test.YtphabealejpfnaaDoorZyFnRead
import Derived.Test.YtphabealejpfnaaDoorZyFnReadList
import Derived.KernelRfl
set_option linter.unusedVariables false
set_option linter.unusedSimpArgs false
namespace Go.Proofs.YtphabealejpfnaaDoor.Model
open Go.RowKit Go.Proofs.YtphabealejpfnaaDoor.Z Go.Proofs.YtphabealejpfnaaDoorW.PrintWords Go.Proofs.YtphabealejpfnaaDoorW.PrintLast Go.Proofs.YtphabealejpfnaaDoor.Ver

def full (L : List (List S23)) : Bool := L.all (fun m => !m.isEmpty)
def fair (L : List (List S23)) : Bool := L.all (fun m => m.all formM)
theorem okL_parts (L : List (List S23)) : okL L = (full L && fair L) := by
  unfold okL full fair
  induction L with
  | nil => rfl
  | cons m L ih =>
    rw [List.all_cons, List.all_cons, List.all_cons, ih]
    cases m.isEmpty <;> cases m.all formM <;> simp
theorem fair_flat (L : List (List S23)) : L.flatten.all formM = fair L := by
  unfold fair
  induction L with
  | nil => rfl
  | cons m L ih => rw [List.flatten_cons, List.all_append, List.all_cons, ih]
theorem there_inner (L : List (List S23)) (i : Nat) (hi : i < L.length) (hm : (L[i].map relW).sum ≤ 10000000000) (hi2 : i < 4000000000) (x3 : Bool) : ∀ (d j : Nat), j + d = L[i].length → ∀ (b v : Bool),
    Ev (fun k => depotlaw22_RelationThere.l0 k L x3 (b && (L[i].drop j).all formM) ((i + 1 : Nat) : Int)) v → Ev (fun k => depotlaw22_RelationThere.l1 k L x3 b (i : Int) (j : Int)) v := by
  have hml := row_length L[i]
  intro d
  induction d with
  | zero =>
    intro j hj b v h
    obtain rfl : j = L[i].length := by omega
    have ew : wrap64 ((i : Int) + 1) = ((i + 1 : Nat) : Int) := by rw [wrap_id (by omega) (by omega)]; omega
    rw [List.drop_length, List.all_nil, Bool.and_true] at h
    refine Ev.step (f := _) (fun k => ?_) h
    simp only [depotlaw22_RelationThere.l1, rd_at hi, ew]
    rw [if_pos (by omega), if_pos (by omega), if_neg (by omega)]
  | succ d ih =>
    intro j hj b v h
    have hj' : j < L[i].length := by omega
    have ew : wrap64 ((j : Int) + 1) = ((j + 1 : Nat) : Int) := by rw [wrap_id (by omega) (by omega)]; omega
    have hrel := relW_mem (List.getElem_mem hj')
    have hf := form_ev L[i][j] (by omega)
    rw [drop_at hj', List.all_cons] at h
    cases b with
    | true =>
      have hn := ih (j + 1) (by omega) (formM L[i][j]) v (by simpa using h)
      refine Ev.step (f := fun k => (relation_Formed.f k L[i][j].f0 L[i][j].f1 L[i][j].f2).bind fun t => depotlaw22_RelationThere.l1 k L x3 t (i : Int) ((j + 1 : Nat) : Int)) (fun k => ?_) (Ev.bind hf hn)
      simp only [depotlaw22_RelationThere.l1, rd_at hi, rt_at hj', ew, if_true]
      rw [if_pos (by omega), if_pos (by omega), if_pos (by omega), if_pos (by omega)]
    | false =>
      have hn := ih (j + 1) (by omega) false v (by simpa using h)
      refine Ev.step (f := _) (fun k => ?_) hn
      simp only [depotlaw22_RelationThere.l1, rd_at hi, ew, Bool.false_eq_true, if_false]
      rw [if_pos (by omega), if_pos (by omega), if_pos (by omega)]
theorem there_outer (L : List (List S23)) (hL : (L.map rowW).sum ≤ 1000000000) : ∀ (d i : Nat), i + d = L.length → ∀ (a b v : Bool),
    Ev (fun k => depotlaw22_RelationThere.l0 k L (a && full (L.drop i)) (b && fair (L.drop i)) (L.length : Int)) v → Ev (fun k => depotlaw22_RelationThere.l0 k L a b (i : Int)) v := by
  have hLl := rows_length L
  intro d
  induction d with
  | zero =>
    intro i hi a b v h
    obtain rfl : i = L.length := by omega
    simpa [full, fair] using h
  | succ d ih =>
    intro i hi a b v h
    have hi' : i < L.length := by omega
    have hrow := rowW_mem (List.getElem_mem hi')
    have hrw : rowW L[i] = (L[i].map relW).sum + 1 := rfl
    rw [drop_at hi', full, fair, List.all_cons, List.all_cons] at h
    have e1 : decide (((L[i].length : Nat) : Int) > 0) = !L[i].isEmpty := by
      cases hq : L[i] with
      | nil => rfl
      | cons x m => simp only [List.length_cons, List.isEmpty_cons, Bool.not_false]; exact decide_eq_true (by omega)
    have hn := ih (i + 1) (by omega) (a && !L[i].isEmpty) (b && L[i].all formM) v (by
      rw [Bool.and_assoc, Bool.and_assoc]
      exact h)
    have hin := there_inner L i hi' (by omega) (by omega) (a && !L[i].isEmpty) L[i].length 0 (by omega) b v (by rw [List.drop_zero]; exact hn)
    refine Ev.step (f := fun k => depotlaw22_RelationThere.j1 k L (a && !L[i].isEmpty) b (i : Int)) (fun k => ?_) (Ev.step (f := _) (fun k => by simp only [depotlaw22_RelationThere.j1]; rfl) hin)
    simp only [depotlaw22_RelationThere.l0, rd_at hi', e1]
    rw [if_pos (by omega)]
    cases a with
    | true =>
      simp only [if_true, Bool.true_and]
      rw [if_pos (by omega)]
    | false => simp only [Bool.false_eq_true, if_false, Bool.false_and]
theorem aa_formed : Ev (fun k => relation_Formed.f k ⟨#[97, 97]⟩ 0 ⟨#[]⟩) true := Ev.of (fun k => relation_Formed.mono _ _ _ k) (k := 60) (by kernel_rfl)
theorem there_law (L : List (List S23)) (h : rowsW L ≤ 1048576) : Ev (fun k => depotlaw22_RelationThere.f k L) true := by
  have hr : rowsW L = (L.map rowW).sum + 1 := rfl
  have h1 := rows_length L
  have h2 := flat_weigh L
  have h3 := row_length L.flatten
  have h4 := singles_weigh L.flatten
  have hF := flat_law L (by omega) (by omega)
  have hC := copies_law L (by omega) (fun m hm => by have := row_len hm; omega)
  have hW := write_ev L (by omega)
  have hV := writelist_ev L.flatten (by omega)
  rw [fair_flat] at hV
  have hj4 : ∀ e : ByteArray × Int, e = (if okL L = true then (ofL (textsM L), 0) else (⟨#[]⟩, 1)) → Ev (fun k => depotlaw22_RelationThere.j4 k L e.1 e.2) true := by
    intro e he
    by_cases ho : okL L = true
    · rw [if_pos ho] at he
      subst he
      have htl := textsM_len L
      obtain ⟨t1, t2⟩ := read_texts true L ho (.inr rfl)
      have hR := Read_ev (ofL (textsM L)) (by rw [ofL_size]; omega)
      rw [toL_ofL] at hR
      have pT : (placeM (ofL (textsM L)) (readM true (textsM L))) = (L, 0, 0) := by simp only [placeM, t1, t2, if_true]
      rw [pT] at hR
      have hA := alike_self L (by omega) (fun m hm => by have := row_len hm; omega)
      refine Ev.step (f := fun k => (relation_Read.f k (ofL (textsM L))).bind fun bt => (if bt.2.1 = 0 then (if bt.2.2 = 0 then ((depotlaw22_alike.f k bt.1 L).bind fun t => (if t = true then ((relation_Formed.f k (⟨#[97, 97]⟩ : ByteArray) 0 (⟨#[]⟩ : ByteArray)).bind fun t => (some t)) else (some false))) else (some false)) else (some false))) (fun k => ?_) ?_
      · simp only [depotlaw22_RelationThere.j4, if_true]
      refine Ev.bind hR ?_
      simp only [if_true]
      refine Ev.bind hA ?_
      simp only [if_true]
      exact Ev.bind aa_formed (Ev.now _)
    · rw [if_neg ho] at he
      subst he
      refine Ev.step (f := fun k => (relation_Formed.f k (⟨#[97, 97]⟩ : ByteArray) 0 (⟨#[]⟩ : ByteArray)).bind fun t => some t) (fun k => ?_) (Ev.bind aa_formed (Ev.now _))
      have e0 : ((⟨#[]⟩ : ByteArray)).toList = ([] : List UInt8) := ofL_list []
      simp only [depotlaw22_RelationThere.j4, if_neg (show ¬ (1 : Int) = 0 by omega), if_true, e0]
  have hj3 : Ev (fun k => depotlaw22_RelationThere.j3 k L (fair L) (if okL L = true then (ofL (textsM L), (0 : Int)) else (⟨#[]⟩, 1)).1 (if okL L = true then (ofL (textsM L), (0 : Int)) else (⟨#[]⟩, 1)).2 (if fair L = true then (ofL (textsM (singles L.flatten)), (0 : Int)) else (⟨#[]⟩, 1)).1 false) true := by
    have hj := hj4 _ rfl
    cases hp : fair L with
    | false =>
      refine Ev.step (f := _) (fun k => ?_) hj
      simp only [depotlaw22_RelationThere.j3, Bool.false_eq_true, if_false]
    | true =>
      have hs : okL (singles L.flatten) = true := by rw [singles_ok, fair_flat, hp]
      have htl := textsM_len (singles L.flatten)
      obtain ⟨t1, t2⟩ := read_texts false (singles L.flatten) hs (.inl (singles_one _))
      have hR := ReadList_ev (ofL (textsM (singles L.flatten))) (by rw [ofL_size]; omega)
      rw [toL_ofL] at hR
      have pT : ((readM false (textsM (singles L.flatten))).1.flatten, (placeM (ofL (textsM (singles L.flatten))) (readM false (textsM (singles L.flatten)))).2) = (L.flatten, (0 : Int), (0 : Int)) := by
        simp only [placeM, t1, t2, if_true, singles_flat]
      rw [pT] at hR
      simp only [if_true]
      refine Ev.step (f := fun k => (relation_ReadList.f k (ofL (textsM (singles L.flatten)))).bind fun bt => (if bt.2.1 = 0 then (if bt.2.2 = 0 then ((depotlaw22_flat.f k L).bind fun t => ((depotlaw22_same.f k bt.1 t).bind fun t => (if t = true then (depotlaw22_RelationThere.j4 k L (if okL L = true then (ofL (textsM L), (0 : Int)) else (⟨#[]⟩, 1)).1 (if okL L = true then (ofL (textsM L), (0 : Int)) else (⟨#[]⟩, 1)).2) else (some false)))) else (some false)) else (some false))) (fun k => ?_) ?_
      · simp only [depotlaw22_RelationThere.j3, Bool.false_eq_true, if_false, if_true]
      refine Ev.bind hR ?_
      simp only [if_true]
      refine Ev.bind hF ?_
      refine Ev.bind (same_self _ (by omega)) ?_
      simp only [if_true]
      exact hj
  unfold depotlaw22_RelationThere.f
  refine there_outer L (by omega) L.length 0 (by omega) true true true ?_
  rw [List.drop_zero, Bool.true_and, Bool.true_and]
  have hb1 : (((if okL L = true then (ofL (textsM L), (0 : Int)) else (⟨#[]⟩, 1)).2 == 0)) = okL L := by
    cases okL L <;> rfl
  have hb2 : (((if fair L = true then (ofL (textsM (singles L.flatten)), (0 : Int)) else (⟨#[]⟩, 1)).2 == 0)) = fair L := by
    cases fair L <;> rfl
  refine Ev.step (f := fun k => ((depotlaw22_copies.f k L).bind fun t404 => ((relation_Write.f k t404).bind fun bt407 => ((depotlaw22_flat.f k L).bind fun t409 => ((relation_WriteList.f k t409).bind fun bt412 => (if full L = true then (if ((bt407.2 == 0) != fair L) = true then (depotlaw22_RelationThere.j3 k L (fair L) bt407.1 bt407.2 bt412.1 true) else (depotlaw22_RelationThere.j3 k L (fair L) bt407.1 bt407.2 bt412.1 ((bt412.2 == 0) != fair L))) else (if ((bt407.2 == 0) != false) = true then (depotlaw22_RelationThere.j3 k L (fair L) bt407.1 bt407.2 bt412.1 true) else (depotlaw22_RelationThere.j3 k L (fair L) bt407.1 bt407.2 bt412.1 ((bt412.2 == 0) != fair L))))))))) (fun k => ?_) ?_
  · simp only [depotlaw22_RelationThere.l0]
    rw [if_neg (by omega)]
  refine Ev.bind hC ?_
  refine Ev.bind hW ?_
  refine Ev.bind hF ?_
  refine Ev.bind hV ?_
  rw [hb1, hb2, bne_self_eq_false]
  have ho := okL_parts L
  cases hfu : full L with
  | true =>
    have hof : okL L = fair L := by rw [ho, hfu, Bool.true_and]
    have hff : (okL L != fair L) = false := by rw [hof, bne_self_eq_false]
    simp only [if_true, hff, Bool.false_eq_true, if_false]
    exact hj3
  | false =>
    have hof : okL L = false := by rw [ho, hfu, Bool.false_and]
    have hff : (okL L != false) = false := by rw [hof]; rfl
    simp only [Bool.false_eq_true, if_false, hff]
    exact hj3
end Go.Proofs.YtphabealejpfnaaDoor.Model
