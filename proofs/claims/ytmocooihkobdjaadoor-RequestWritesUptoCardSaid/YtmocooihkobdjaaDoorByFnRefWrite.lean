/-
  Plain Lean: the reference's Formed, Write and WriteList (depotref22) come to what the program's do.
-/
import Derived.Test.YtmocooihkobdjaaDoorByFnWriteList
import Derived.Test.YtmocooihkobdjaaDoorByFnRefForm
set_option linter.unusedVariables false
set_option linter.unusedSimpArgs false
namespace Go.Proofs.YtmocooihkobdjaaDoor.Model
open Go.RowKit Go.Proofs.YtmocooihkobdjaaDoor.B Go.Proofs.YtmocooihkobdjaaDoorW.PrintWords Go.Proofs.YtmocooihkobdjaaDoorW.PrintLast Go.Proofs.YtmocooihkobdjaaDoor.Ver

theorem rtext_law (x : S46) (h : relW x ≤ 140737488351232) : depotref22_text.f x.f0 x.f1 x.f2 = some (ofL (textM x)) := by
  unfold relW at h
  have hw := word_le x.f1
  have e2 : (⟨#[32, 40]⟩ : ByteArray).size = 2 := rfl
  have e1 : (⟨#[32]⟩ : ByteArray).size = 1 := rfl
  unfold depotref22_text.f textM
  by_cases h0 : x.f1 = 0
  · rw [if_pos h0, if_pos h0, ofL_toL]
  · rw [if_neg h0, if_neg h0]
    simp only [rsign, Option.bind_some, ByteArray.size_append, e2, e1]
    rw [if_pos (by omega), if_pos (by omega), if_pos (by omega), if_pos (by omega), if_pos (by omega)]
    congr 1
    simp only [app_ofL, toL_ofL, List.append_assoc]
theorem join_snoc (sep : B) (xs : List B) (y : B) : Lib.join (xs ++ [y]) sep = if xs = [] then y else Lib.join xs sep ++ (sep ++ y) := by
  cases xs with
  | nil => rw [if_pos rfl]; exact Lib.join_one y sep
  | cons x r =>
    rw [if_neg (by simp), List.cons_append, Lib.join_cons, Lib.join_cons]
    simp [Lib.joinTail]
theorem sum_take_le (f : List S46 → Nat) (L : List (List S46)) (i : Nat) : ((L.take i).map f).sum ≤ (L.map f).sum := by
  have := congrArg (fun l => (l.map f).sum) (List.take_append_drop i L)
  simp only [List.map_append, List.sum_append] at this
  omega
theorem sum_take_le' (f : S46 → Nat) (L : List S46) (i : Nat) : ((L.take i).map f).sum ≤ (L.map f).sum := by
  have := congrArg (fun l => (l.map f).sum) (List.take_append_drop i L)
  simp only [List.map_append, List.sum_append] at this
  omega
theorem app_one (a b : B) : ofL a ++ ofL b = ofL (a ++ b) := by rw [app_ofL, toL_ofL, toL_ofL]
theorem rwrite_l1 (L : List (List S46)) (i : Nat) (hi : i < L.length) (hi2 : i < 4000000000) (hm : (L[i].map relW).sum ≤ 10000000000) (base : B) (hb : base.length ≤ 100000000000) : ∀ (d j : Nat), j + d = L[i].length → ∀ o : B, o = base ++ rowT (L[i].take j) →
    ((L[i].drop j).all formM = false → Ev (fun k => depotref22_Write.l1 k L (ofL o) (i : Int) (j : Int)) (⟨#[]⟩, 1)) ∧
    ((L[i].drop j).all formM = true → ∀ v, Ev (fun k => depotref22_Write.l0 k L (ofL (base ++ rowT L[i])) ((i + 1 : Nat) : Int)) v → Ev (fun k => depotref22_Write.l1 k L (ofL o) (i : Int) (j : Int)) v) := by
  have hml := row_length L[i]
  intro d
  induction d with
  | zero =>
    intro j hj o ho
    obtain rfl : j = L[i].length := by omega
    rw [List.take_length] at ho
    have ew : wrap64 ((i : Int) + 1) = ((i + 1 : Nat) : Int) := by rw [wrap_id (by omega) (by omega)]; omega
    rw [List.drop_length]
    refine ⟨fun h => by simp at h, fun _ v h => ?_⟩
    rw [← ho] at h
    refine Ev.step (f := _) (fun k => ?_) h
    simp only [depotref22_Write.l1, rd_at hi, ew]
    rw [if_pos (by omega), if_pos (by omega), if_neg (by omega)]
  | succ d ih =>
    intro j hj o ho
    have hj' : j < L[i].length := by omega
    have ew : wrap64 ((j : Int) + 1) = ((j + 1 : Nat) : Int) := by rw [wrap_id (by omega) (by omega)]; omega
    have hrel := relW_mem (List.getElem_mem hj')
    have hf := rform_ev L[i][j] (by omega)
    have ht := rtext_law L[i][j] (by omega)
    have htl := textM_len L[i][j]
    have hrl := rowT_len (L[i].take j)
    have hst := sum_take_le' relW L[i] j
    have hol : o.length ≤ 200000000000 := by rw [ho, List.length_append]; omega
    have e3 : (⟨#[32, 124, 32]⟩ : ByteArray) = ofL [32, 124, 32] := rfl
    have hrow : base ++ rowT (L[i].take (j + 1)) = if j = 0 then o ++ textM L[i][j] else (o ++ [32, 124, 32]) ++ textM L[i][j] := by
      unfold rowT at ho ⊢
      rw [List.take_succ_eq_append_getElem hj', List.map_append, List.map_cons, List.map_nil, join_snoc]
      by_cases hz : j = 0
      · subst hz
        rw [if_pos (by simp), if_pos rfl, ho]
        simp [Lib.join_nil]
      · have hne : ¬ (L[i].take j).map textM = [] := by
          intro q
          have := congrArg List.length q
          rw [List.length_map, List.length_take, List.length_nil] at this
          omega
        rw [if_neg hne, if_neg hz, ho]
        simp
    obtain ⟨i1, i2⟩ := ih (j + 1) (by omega) (base ++ rowT (L[i].take (j + 1))) rfl
    have hP : ∀ {v}, Ev (fun k => if formM L[i][j] = true then depotref22_Write.l1 k L (ofL (base ++ rowT (L[i].take (j + 1)))) (i : Int) ((j + 1 : Nat) : Int) else some (⟨#[]⟩, 1)) v → Ev (fun k => depotref22_Write.l1 k L (ofL o) (i : Int) (j : Int)) v := by
      intro v h
      refine Ev.step (f := fun k => (depotref22_Formed.f k L[i][j].f0 L[i][j].f1 L[i][j].f2).bind fun t => if t = true then depotref22_Write.l1 k L (ofL (base ++ rowT (L[i].take (j + 1)))) (i : Int) ((j + 1 : Nat) : Int) else some (⟨#[]⟩, 1)) (fun k => ?_) (Ev.bind hf h)
      rw [hrow]
      simp only [depotref22_Write.l1, rd_at hi, rt_at hj', ht, Option.bind_some, ew, e3, app_one, ofL_size, List.length_append, List.length_cons, List.length_nil]
      rw [if_pos (by omega), if_pos (by omega), if_pos (by omega), if_pos (by omega)]
      by_cases hz : j = 0
      · rw [if_neg (show ¬ (j : Int) > 0 by omega), if_pos hz, if_pos (by omega)]
      · rw [if_pos (show (j : Int) > 0 by omega), if_neg hz, if_pos (by omega), if_pos (by omega)]
    rw [drop_at hj', List.all_cons]
    cases hc : formM L[i][j] with
    | false =>
      rw [hc] at hP
      rw [Bool.false_and]
      refine ⟨fun _ => hP ?_, fun h => by simp at h⟩
      simp only [Bool.false_eq_true, if_false]
      exact Ev.now _
    | true =>
      rw [hc] at hP
      simp only [if_true] at hP
      rw [Bool.true_and]
      exact ⟨fun h => hP (i1 h), fun h v hv => hP (i2 h v hv)⟩
theorem rwrite_l0 (L : List (List S46)) (hL : (L.map rowW).sum ≤ 1000000000) : ∀ (d i : Nat), i + d = L.length → ∀ o : B, o = textsM (L.take i) →
    Ev (fun k => depotref22_Write.l0 k L (ofL o) (i : Int)) (if okL (L.drop i) = true then (ofL (textsM L), 0) else (⟨#[]⟩, 1)) := by
  have hLl := rows_length L
  intro d
  induction d with
  | zero =>
    intro i hi o ho
    obtain rfl : i = L.length := by omega
    rw [List.take_length] at ho
    rw [List.drop_length, ← ho]
    simp only [okL, List.all_nil, if_true]
    refine Ev.step (f := fun _ => some (ofL o, 0)) (fun k => ?_) (Ev.now _)
    simp only [depotref22_Write.l0]
    rw [if_neg (by omega)]
  | succ d ih =>
    intro i hi o ho
    have hi' : i < L.length := by omega
    have hrow := rowW_mem (List.getElem_mem hi')
    have hrw : rowW L[i] = (L[i].map relW).sum + 1 := rfl
    have hm : (L[i].map relW).sum ≤ 10000000000 := by omega
    have htl := textsM_len (L.take i)
    have hst := sum_take_le rowW L i
    have hol : o.length ≤ 9000000000 := by rw [ho]; omega
    have e2 : (⟨#[44, 32]⟩ : ByteArray) = ofL [44, 32] := rfl
    have hn := ih (i + 1) (by omega) (textsM (L.take (i + 1))) rfl
    have hnext : textsM (L.take (i + 1)) = (if i = 0 then o else o ++ [44, 32]) ++ rowT L[i] := by
      unfold textsM at ho ⊢
      rw [List.take_succ_eq_append_getElem hi', List.map_append, List.map_cons, List.map_nil, join_snoc]
      by_cases hz : i = 0
      · subst hz
        rw [if_pos (by simp), if_pos rfl, ho]
        simp [Lib.join_nil]
      · have hne : ¬ (L.take i).map rowT = [] := by
          intro q
          have := congrArg List.length q
          rw [List.length_map, List.length_take, List.length_nil] at this
          omega
        rw [if_neg hne, if_neg hz, ho]
        simp
    rw [hnext] at hn
    obtain ⟨i1, i2⟩ := rwrite_l1 L i hi' (by omega) hm (if i = 0 then o else o ++ [44, 32]) (by split <;> (try rw [List.length_append, List.length_cons, List.length_cons, List.length_nil]) <;> omega) L[i].length 0 (by omega) (if i = 0 then o else o ++ [44, 32]) (by simp [rowT, Lib.join_nil])
    have hP : ∀ {v}, ¬ L[i] = [] → Ev (fun k => depotref22_Write.l1 k L (ofL (if i = 0 then o else o ++ [44, 32])) (i : Int) ((0 : Nat) : Int)) v → Ev (fun k => depotref22_Write.l0 k L (ofL o) (i : Int)) v := by
      intro v h0 h
      have hz : ¬ ((L[i].length : Nat) : Int) = 0 := by
        have : L[i].length ≠ 0 := fun q => h0 (List.eq_nil_of_length_eq_zero q)
        omega
      refine Ev.step (f := fun k => depotref22_Write.j1 k L (ofL (if i = 0 then o else o ++ [44, 32])) (i : Int)) (fun k => ?_) (Ev.step (f := _) (fun k => by simp only [depotref22_Write.j1]; rfl) h)
      simp only [depotref22_Write.l0, rd_at hi', e2, app_one, ofL_size, List.length_cons, List.length_nil]
      rw [if_pos (by omega), if_pos (by omega), if_neg hz]
      by_cases hz : i = 0
      · rw [if_neg (show ¬ (i : Int) > 0 by omega), if_pos hz]
      · rw [if_pos (show (i : Int) > 0 by omega), if_neg hz, if_pos (by omega)]
    rw [List.drop_zero] at i1 i2
    rw [drop_at hi', okL, List.all_cons]
    by_cases h0 : L[i] = []
    · rw [h0]
      simp only [List.isEmpty_nil, Bool.not_true, Bool.false_and, Bool.false_eq_true, if_false]
      refine Ev.step (f := fun _ => some (⟨#[]⟩, 1)) (fun k => ?_) (Ev.now _)
      simp only [depotref22_Write.l0, rd_at hi', h0, List.length_nil]
      rw [if_pos (by omega), if_pos (by omega), if_pos (by rfl)]
    · have hne : (!L[i].isEmpty) = true := by simpa using h0
      rw [hne, Bool.true_and]
      cases hc : L[i].all formM with
      | false =>
        rw [Bool.false_and]
        simp only [Bool.false_eq_true, if_false]
        exact hP h0 (i1 hc)
      | true =>
        rw [Bool.true_and]
        exact hP h0 (i2 hc _ hn)
theorem rwrite_ev (L : List (List S46)) (hL : (L.map rowW).sum ≤ 1000000000) : Ev (fun k => depotref22_Write.f k L) (if okL L = true then (ofL (textsM L), 0) else (⟨#[]⟩, 1)) := by
  have := rwrite_l0 L hL L.length 0 (by omega) [] rfl
  rw [List.drop_zero] at this
  exact this
theorem rwritelist_ev (l : List S46) (hl : (l.map relW).sum ≤ 400000000) : Ev (fun k => depotref22_WriteList.f k l) (if l.all formM = true then (ofL (textsM (singles l)), 0) else (⟨#[]⟩, 1)) := by
  have hlen := row_length l
  have hsw := singles_weigh l
  have key : ∀ (d i : Nat), i + d = l.length → ∀ x4 : List (List S46), x4 = singles (l.take i) → Ev (fun k => depotref22_WriteList.l0 k l x4 (i : Int)) (if l.all formM = true then (ofL (textsM (singles l)), 0) else (⟨#[]⟩, 1)) := by
    intro d
    induction d with
    | zero =>
      intro i hi x4 hx
      obtain rfl : i = l.length := by omega
      rw [List.take_length] at hx
      subst hx
      have hw := rwrite_ev (singles l) (by omega)
      rw [singles_ok] at hw
      refine Ev.step (f := fun k => (depotref22_Write.f k (singles l)).bind fun bt => some (bt.1, bt.2)) (fun k => ?_) (Ev.bind hw (Ev.now _))
      simp only [depotref22_WriteList.l0]
      rw [if_neg (by omega)]
    | succ d ih =>
      intro i hi x4 hx
      have hi' : i < l.length := by omega
      have ew : wrap64 ((i : Int) + 1) = ((i + 1 : Nat) : Int) := by rw [wrap_id (by omega) (by omega)]; omega
      have h4 : x4.length = i := by rw [hx]; unfold singles; rw [List.length_map, List.length_take]; omega
      have hn := ih (i + 1) (by omega) (x4 ++ [[l[i]]]) (by rw [List.take_succ_eq_append_getElem hi', hx]; unfold singles; rw [List.map_append]; rfl)
      refine Ev.step (f := _) (fun k => ?_) hn
      simp only [depotref22_WriteList.l0, rt_at hi', ew]
      rw [if_pos (by omega), if_pos (by omega), if_pos (by omega)]
  unfold depotref22_WriteList.f
  exact key l.length 0 (by omega) [] rfl
end Go.Proofs.YtmocooihkobdjaaDoor.Model
