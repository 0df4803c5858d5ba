/-
  Plain Lean: relation.Formed and relation.Write by the functions on bytes.
-/
import Derived.Test.YtmocooihkobdjaaDoorByFnForm
set_option linter.unusedVariables false
set_option linter.unusedSimpArgs false
namespace Go.Proofs.YtmocooihkobdjaaDoor.Model
open Go.RowKit Go.Proofs.YtmocooihkobdjaaDoor.B Go.Proofs.YtmocooihkobdjaaDoorW.PrintWords Go.Proofs.YtmocooihkobdjaaDoorW.PrintLast Go.Proofs.YtmocooihkobdjaaDoor.Ver

theorem app_ofL (a b : ByteArray) : a ++ b = ofL (a.data.toList ++ b.data.toList) := by
  rw [← ofL_toL (a ++ b)]
  congr 1
theorem word_le (z : Int) : (wordOf z).size ≤ 2 := by
  unfold wordOf
  repeat' split
  all_goals decide
theorem text_law (x : S46) (h : relW x ≤ 140737488351232) : relation_text.f x.f0 x.f1 x.f2 = some (ofL (textM x)) := by
  unfold relW at h
  have hw := word_le x.f1
  have e2 : (⟨#[32, 40]⟩ : ByteArray).size = 2 := rfl
  have e1 : (⟨#[32]⟩ : ByteArray).size = 1 := rfl
  unfold relation_text.f textM
  by_cases h0 : x.f1 = 0
  · rw [if_pos h0, if_pos h0, ofL_toL]
  · rw [if_neg h0, if_neg h0]
    simp only [relation_word.f, Option.bind_some, ByteArray.size_append, e2, e1]
    rw [if_pos (by omega), if_pos (by omega), if_pos (by omega), if_pos (by omega), if_pos (by omega)]
    congr 1
    simp only [app_ofL, toL_ofL, List.append_assoc]
theorem textM_len (x : S46) : (textM x).length ≤ relW x + 5 := by
  have hw := word_le x.f1
  have a0 : x.f0.data.toList.length = x.f0.size := by simp
  have a2 : x.f2.data.toList.length = x.f2.size := by simp
  have a1 : (wordOf x.f1).data.toList.length = (wordOf x.f1).size := by simp
  unfold textM relW
  split
  · omega
  · simp only [List.length_append, List.length_cons, List.length_nil]
    omega
theorem join_len (sep : B) (xs : List B) : (Lib.join xs sep).length ≤ (xs.map (fun x => x.length + sep.length)).sum := by
  cases xs with
  | nil => simp [Lib.join_nil]
  | cons x r =>
    rw [Lib.join_cons, List.length_append, List.map_cons, List.sum_cons]
    have : (Lib.joinTail sep r).length = (r.map (fun x => x.length + sep.length)).sum := by
      induction r with
      | nil => rfl
      | cons y r ih =>
        rw [joinTail_cons, List.length_append, List.length_append, List.map_cons, List.sum_cons, ih]
        omega
    omega
theorem rowT_len (m : List S46) : (rowT m).length ≤ 9 * (m.map relW).sum := by
  have h1 := join_len [32, 124, 32] (m.map textM)
  have h2 : ((m.map textM).map (fun x => x.length + ([32, 124, 32] : B).length)).sum ≤ 9 * (m.map relW).sum := by
    clear h1
    induction m with
    | nil => simp
    | cons x m ih =>
      simp only [List.map_cons, List.sum_cons, List.length_cons, List.length_nil] at ih ⊢
      have := textM_len x
      have h3 : 1 ≤ relW x := by unfold relW; omega
      omega
  unfold rowT
  omega
theorem textsM_len (L : List (List S46)) : (textsM L).length ≤ 9 * (L.map rowW).sum := by
  have h1 := join_len [44, 32] (L.map rowT)
  have h2 : ((L.map rowT).map (fun x => x.length + ([44, 32] : B).length)).sum ≤ 9 * (L.map rowW).sum := by
    clear h1
    induction L with
    | nil => simp
    | cons m L ih =>
      simp only [List.map_cons, List.sum_cons, List.length_cons, List.length_nil] at ih ⊢
      have := rowT_len m
      have h3 : rowW m = (m.map relW).sum + 1 := rfl
      omega
  unfold textsM
  omega
theorem joinB_ofL (xs : List B) (sep : B) : joinB (xs.map ofL) (ofL sep) = ofL (Lib.join xs sep) := by
  unfold joinB
  rw [List.map_map]
  have : ((fun x : ByteArray => x.data.toList) ∘ ofL) = id := by
    funext x
    exact toL_ofL x
  rw [this, List.map_id, toL_ofL]
  rfl
/-- A list, from a relation on. -/
theorem write_l1 (L : List (List S46)) (x4 : List ByteArray) (i : Nat) (n : Int) (m : List S46) (hm : (m.map relW).sum ≤ 10000000000) (h4 : x4.length < 8796093022208) (hi : (i : Int) + 1 ≤ 9223372036854775807) : ∀ (d j : Nat), j + d = m.length → ∀ x7 : List B, x7 = (m.take j).map textM →
    ((m.drop j).all formM = false → Ev (fun k => relation_Write.l1 k x4 (x7.map ofL) L n (i : Int) m (m.length : Int) (j : Int)) (⟨#[]⟩, 1)) ∧
    ((m.drop j).all formM = true → m = [] → Ev (fun k => relation_Write.l1 k x4 (x7.map ofL) L n (i : Int) m (m.length : Int) (j : Int)) (⟨#[]⟩, 1)) ∧
    ((m.drop j).all formM = true → m ≠ [] → ∀ v, Ev (fun k => relation_Write.l0 k (x4 ++ [ofL (rowT m)]) L n ((i + 1 : Nat) : Int)) v → Ev (fun k => relation_Write.l1 k x4 (x7.map ofL) L n (i : Int) m (m.length : Int) (j : Int)) v) := by
  have hml := row_length m
  intro d
  induction d with
  | zero =>
    intro j hj x7 hx
    obtain rfl : j = m.length := by omega
    rw [List.take_length] at hx
    have hjb := joinB_ofL (m.map textM) [32, 124, 32]
    have hlen := rowT_len m
    rw [List.drop_length]
    refine ⟨fun h => by simp at h, fun _ h0 => ?_, fun _ hne v h => ?_⟩
    · subst h0 hx
      refine Ev.step (f := fun _ => some (⟨#[]⟩, 1)) (fun k => ?_) (Ev.now _)
      simp [relation_Write.l1]
    · refine Ev.step (f := fun k => relation_Write.l0 k (x4 ++ [ofL (rowT m)]) L n ((i + 1 : Nat) : Int)) (fun k => ?_) h
      have hz : ¬ (((x7.map ofL).length : Nat) : Int) = 0 := by
        rw [hx, List.length_map, List.length_map]
        have : m.length ≠ 0 := fun q => hne (List.eq_nil_of_length_eq_zero q)
        omega
      have hl7 : (x7.map ofL).length = m.length := by rw [hx, List.length_map, List.length_map]
      have ew : wrap64 ((i : Int) + 1) = ((i + 1 : Nat) : Int) := by rw [wrap_id (by omega) (by omega)]; omega
      have hJ : strings_Join.f (x7.map ofL) ⟨#[32, 124, 32]⟩ = some (ofL (rowT m)) := by
        have e : joinB (x7.map ofL) ⟨#[32, 124, 32]⟩ = ofL (rowT m) := by rw [hx]; exact hjb
        unfold strings_Join.f
        rw [e, ofL_size, if_pos (by constructor <;> omega)]
      simp only [relation_Write.l1]
      rw [if_neg (by omega), if_neg hz, hJ]
      simp only [Option.bind_some]
      rw [if_pos h4, ew]
  | succ d ih =>
    intro j hj x7 hx
    have hj' : j < m.length := by omega
    have ew : wrap64 ((j : Int) + 1) = ((j + 1 : Nat) : Int) := by rw [wrap_id (by omega) (by omega)]; omega
    have hrel := relW_mem (List.getElem_mem hj')
    have hf := form_ev m[j] (by omega)
    have ht := text_law m[j] (by omega)
    have h7 : x7.length = j := by rw [hx, List.length_map, List.length_take]; omega
    have hx' : x7 ++ [textM m[j]] = (m.take (j + 1)).map textM := by
      rw [List.take_succ_eq_append_getElem hj', List.map_append, hx]; rfl
    have hP : ∀ {v}, Ev (fun k => if formM m[j] = true then relation_Write.l1 k x4 ((x7 ++ [textM m[j]]).map ofL) L n (i : Int) m (m.length : Int) ((j + 1 : Nat) : Int) else some (⟨#[]⟩, 1)) v → Ev (fun k => relation_Write.l1 k x4 (x7.map ofL) L n (i : Int) m (m.length : Int) (j : Int)) v := by
      intro v h
      refine Ev.step (f := fun k => (relation_Formed.f k m[j].f0 m[j].f1 m[j].f2).bind fun t => if t = true then relation_Write.l1 k x4 ((x7 ++ [textM m[j]]).map ofL) L n (i : Int) m (m.length : Int) ((j + 1 : Nat) : Int) else some (⟨#[]⟩, 1)) (fun k => ?_) (Ev.bind hf h)
      simp only [relation_Write.l1, rt_at hj', ht, Option.bind_some, ew]
      rw [if_pos (by omega), if_pos (by omega), if_pos (by omega), if_pos (by rw [List.length_map]; omega), List.map_append]
      rfl
    obtain ⟨i1, i2, i3⟩ := ih (j + 1) (by omega) (x7 ++ [textM m[j]]) hx'
    rw [drop_at hj', List.all_cons]
    cases hc : formM m[j] with
    | false =>
      rw [hc] at hP
      rw [Bool.false_and]
      refine ⟨fun _ => hP ?_, fun h => by simp at h, fun h => by simp at h⟩
      simp only [Bool.false_eq_true, if_false]
      exact Ev.now _
    | true =>
      rw [hc] at hP
      simp only [if_true] at hP
      rw [Bool.true_and]
      exact ⟨fun h => hP (i1 h), fun h h0 => hP (i2 h h0), fun h h0 v hv => hP (i3 h h0 v hv)⟩
theorem write_l0 (L : List (List S46)) (hL : (L.map rowW).sum ≤ 1000000000) : ∀ (d i : Nat), i + d = L.length → ∀ x4 : List B, x4 = (L.take i).map rowT →
    Ev (fun k => relation_Write.l0 k (x4.map ofL) L (L.length : Int) (i : Int)) (if okL (L.drop i) = true then (ofL (textsM L), 0) else (⟨#[]⟩, 1)) := by
  have hLl := rows_length L
  intro d
  induction d with
  | zero =>
    intro i hi x4 hx
    obtain rfl : i = L.length := by omega
    rw [List.take_length] at hx
    have hjb := joinB_ofL (L.map rowT) [44, 32]
    have hlen := textsM_len L
    rw [List.drop_length]
    simp only [okL, List.all_nil, if_true]
    refine Ev.step (f := fun _ => some (ofL (textsM L), 0)) (fun k => ?_) (Ev.now _)
    have hJ : strings_Join.f (x4.map ofL) ⟨#[44, 32]⟩ = some (ofL (textsM L)) := by
      have e : joinB (x4.map ofL) ⟨#[44, 32]⟩ = ofL (textsM L) := by rw [hx]; exact hjb
      have hl4 : (x4.map ofL).length = L.length := by rw [hx, List.length_map, List.length_map]
      unfold strings_Join.f
      rw [e, ofL_size, if_pos (by constructor <;> omega)]
    simp only [relation_Write.l0]
    rw [if_neg (by omega), hJ]
    rfl
  | succ d ih =>
    intro i hi x4 hx
    have hi' : i < L.length := by omega
    have hrow := rowW_mem (List.getElem_mem hi')
    have hrw : rowW L[i] = (L[i].map relW).sum + 1 := rfl
    have hm : (L[i].map relW).sum ≤ 10000000000 := by omega
    have h4 : (x4.map ofL).length = i := by rw [hx, List.length_map, List.length_map, List.length_take]; omega
    have hx' : x4 ++ [rowT L[i]] = (L.take (i + 1)).map rowT := by
      rw [List.take_succ_eq_append_getElem hi', List.map_append, hx]; rfl
    have hn := ih (i + 1) (by omega) (x4 ++ [rowT L[i]]) hx'
    obtain ⟨i1, i2, i3⟩ := write_l1 L (x4.map ofL) i (L.length : Int) L[i] hm (by omega) (by omega) L[i].length 0 (by omega) [] (by simp)
    have hP : ∀ {v}, Ev (fun k => relation_Write.l1 k (x4.map ofL) (([] : List B).map ofL) L (L.length : Int) (i : Int) L[i] (L[i].length : Int) ((0 : Nat) : Int)) v → Ev (fun k => relation_Write.l0 k (x4.map ofL) L (L.length : Int) (i : Int)) v := by
      intro v h
      refine Ev.step (f := _) (fun k => ?_) h
      simp only [relation_Write.l0, rd_at hi']
      rw [if_pos (by omega), if_pos (by omega), if_pos (by omega)]
      rfl
    rw [List.drop_zero] at i1 i2 i3
    rw [drop_at hi', okL, List.all_cons]
    cases hc : L[i].all formM with
    | false =>
      rw [Bool.and_false, Bool.false_and]
      simp only [Bool.false_eq_true, if_false]
      exact hP (i1 hc)
    | true =>
      rw [Bool.and_true]
      by_cases h0 : L[i] = []
      · rw [h0]
        simp only [List.isEmpty_nil, Bool.not_true, Bool.false_and, Bool.false_eq_true, if_false]
        have := i2 hc h0
        exact hP this
      · have hne : (!L[i].isEmpty) = true := by simpa using h0
        rw [hne, Bool.true_and]
        refine hP (i3 hc h0 _ ?_)
        rw [List.map_append] at hn
        exact hn
/-- The lists' text, or the refusal. -/
theorem write_ev (L : List (List S46)) (hL : (L.map rowW).sum ≤ 1000000000) : Ev (fun k => relation_Write.f k L) (if okL L = true then (ofL (textsM L), 0) else (⟨#[]⟩, 1)) := by
  have := write_l0 L hL L.length 0 (by omega) [] (by simp)
  rw [List.drop_zero] at this
  exact this
end Go.Proofs.YtmocooihkobdjaaDoor.Model
