/- RequestAgain (P24.5): what is read of any text of at most 2^20 bytes is well shaped, and its text reads as the same. -/
import Derived.Below
import Derived.SizedLaws
import Derived.ShutString
import Derived.ChangeOld
import Derived.Carry
import Derived.Test.YtmocooihkobdjaaDoorGk1
import Derived.Test.YtmocooihkobdjaaDoorGk4
section
set_option linter.unusedVariables false
set_option linter.unusedSimpArgs false
namespace Go.Proofs.YtmocooihkobdjaaDoor.Model
open Go.RowKit Go.Proofs.YtmocooihkobdjaaDoor.G Go.Proofs.YtmocooihkobdjaaDoorW.PrintWords Go.Proofs.YtmocooihkobdjaaDoorW.PrintLast Go.Proofs.YtmocooihkobdjaaDoor.Ver
theorem app_ofL (a b : ByteArray) : a ++ b = ofL (a.data.toList ++ b.data.toList) := by
  rw [← ofL_toL (a ++ b)]
  congr 1
theorem word_le (z : Int) : (wordOf z).size ≤ 2 := by
  unfold wordOf
  repeat' split
  all_goals decide
theorem text_law (x : S46) (h : relW x ≤ 140737488351232) : relation_text.f x.f0 x.f1 x.f2 = some (ofL (textM x)) := by
  unfold relW at h
  have hw := word_le x.f1
  have e2 : (⟨#[32, 40]⟩ : ByteArray).size = 2 := rfl
  have e1 : (⟨#[32]⟩ : ByteArray).size = 1 := rfl
  unfold relation_text.f textM
  by_cases h0 : x.f1 = 0
  · rw [if_pos h0, if_pos h0, ofL_toL]
  · rw [if_neg h0, if_neg h0]
    simp only [relation_word.f, Option.bind_some, ByteArray.size_append, e2, e1]
    rw [if_pos (by omega), if_pos (by omega), if_pos (by omega), if_pos (by omega), if_pos (by omega)]
    congr 1
    simp only [app_ofL, toL_ofL, List.append_assoc]
theorem textM_len (x : S46) : (textM x).length ≤ relW x + 5 := by
  have hw := word_le x.f1
  have a0 : x.f0.data.toList.length = x.f0.size := by simp
  have a2 : x.f2.data.toList.length = x.f2.size := by simp
  have a1 : (wordOf x.f1).data.toList.length = (wordOf x.f1).size := by simp
  unfold textM relW
  split
  · omega
  · simp only [List.length_append, List.length_cons, List.length_nil]
    omega
theorem join_len (sep : B) (xs : List B) : (Lib.join xs sep).length ≤ (xs.map (fun x => x.length + sep.length)).sum := by
  cases xs with
  | nil => simp [Lib.join_nil]
  | cons x r =>
    rw [Lib.join_cons, List.length_append, List.map_cons, List.sum_cons]
    have : (Lib.joinTail sep r).length = (r.map (fun x => x.length + sep.length)).sum := by
      induction r with
      | nil => rfl
      | cons y r ih =>
        rw [joinTail_cons, List.length_append, List.length_append, List.map_cons, List.sum_cons, ih]
        omega
    omega
theorem rowT_len (m : List S46) : (rowT m).length ≤ 9 * (m.map relW).sum := by
  have h1 := join_len [32, 124, 32] (m.map textM)
  have h2 : ((m.map textM).map (fun x => x.length + ([32, 124, 32] : B).length)).sum ≤ 9 * (m.map relW).sum := by
    clear h1
    induction m with
    | nil => simp
    | cons x m ih =>
      simp only [List.map_cons, List.sum_cons, List.length_cons, List.length_nil] at ih ⊢
      have := textM_len x
      have h3 : 1 ≤ relW x := by unfold relW; omega
      omega
  unfold rowT
  omega
theorem textsM_len (L : List (List S46)) : (textsM L).length ≤ 9 * (L.map rowW).sum := by
  have h1 := join_len [44, 32] (L.map rowT)
  have h2 : ((L.map rowT).map (fun x => x.length + ([44, 32] : B).length)).sum ≤ 9 * (L.map rowW).sum := by
    clear h1
    induction L with
    | nil => simp
    | cons m L ih =>
      simp only [List.map_cons, List.sum_cons, List.length_cons, List.length_nil] at ih ⊢
      have := rowT_len m
      have h3 : rowW m = (m.map relW).sum + 1 := rfl
      omega
  unfold textsM
  omega
theorem joinB_ofL (xs : List B) (sep : B) : joinB (xs.map ofL) (ofL sep) = ofL (Lib.join xs sep) := by
  unfold joinB
  rw [List.map_map]
  have : ((fun x : ByteArray => x.data.toList) ∘ ofL) = id := by
    funext x
    exact toL_ofL x
  rw [this, List.map_id, toL_ofL]
  rfl
theorem write_l1 (L : List (List S46)) (x4 : List ByteArray) (i : Nat) (n : Int) (m : List S46) (hm : (m.map relW).sum ≤ 10000000000) (h4 : x4.length < 8796093022208) (hi : (i : Int) + 1 ≤ 9223372036854775807) : ∀ (d j : Nat), j + d = m.length → ∀ x7 : List B, x7 = (m.take j).map textM →
    ((m.drop j).all formM = false → Ev (fun k => relation_Write.l1 k x4 (x7.map ofL) L n (i : Int) m (m.length : Int) (j : Int)) (⟨#[]⟩, 1)) ∧
    ((m.drop j).all formM = true → m = [] → Ev (fun k => relation_Write.l1 k x4 (x7.map ofL) L n (i : Int) m (m.length : Int) (j : Int)) (⟨#[]⟩, 1)) ∧
    ((m.drop j).all formM = true → m ≠ [] → ∀ v, Ev (fun k => relation_Write.l0 k (x4 ++ [ofL (rowT m)]) L n ((i + 1 : Nat) : Int)) v → Ev (fun k => relation_Write.l1 k x4 (x7.map ofL) L n (i : Int) m (m.length : Int) (j : Int)) v) := by
  have hml := row_length m
  intro d
  induction d with
  | zero =>
    intro j hj x7 hx
    obtain rfl : j = m.length := by omega
    rw [List.take_length] at hx
    have hjb := joinB_ofL (m.map textM) [32, 124, 32]
    have hlen := rowT_len m
    rw [List.drop_length]
    refine ⟨fun h => by simp at h, fun _ h0 => ?_, fun _ hne v h => ?_⟩
    · subst h0 hx
      refine Ev.step (f := fun _ => some (⟨#[]⟩, 1)) (fun k => ?_) (Ev.now _)
      simp [relation_Write.l1]
    · refine Ev.step (f := fun k => relation_Write.l0 k (x4 ++ [ofL (rowT m)]) L n ((i + 1 : Nat) : Int)) (fun k => ?_) h
      have hz : ¬ (((x7.map ofL).length : Nat) : Int) = 0 := by
        rw [hx, List.length_map, List.length_map]
        have : m.length ≠ 0 := fun q => hne (List.eq_nil_of_length_eq_zero q)
        omega
      have hl7 : (x7.map ofL).length = m.length := by rw [hx, List.length_map, List.length_map]
      have ew : wrap64 ((i : Int) + 1) = ((i + 1 : Nat) : Int) := by rw [wrap_id (by omega) (by omega)]; omega
      have hJ : strings_Join.f (x7.map ofL) ⟨#[32, 124, 32]⟩ = some (ofL (rowT m)) := by
        have e : joinB (x7.map ofL) ⟨#[32, 124, 32]⟩ = ofL (rowT m) := by rw [hx]; exact hjb
        unfold strings_Join.f
        rw [e, ofL_size, if_pos (by constructor <;> omega)]
      simp only [relation_Write.l1]
      rw [if_neg (by omega), if_neg hz, hJ]
      simp only [Option.bind_some]
      rw [if_pos h4, ew]
  | succ d ih =>
    intro j hj x7 hx
    have hj' : j < m.length := by omega
    have ew : wrap64 ((j : Int) + 1) = ((j + 1 : Nat) : Int) := by rw [wrap_id (by omega) (by omega)]; omega
    have hrel := relW_mem (List.getElem_mem hj')
    have hf := form_ev m[j] (by omega)
    have ht := text_law m[j] (by omega)
    have h7 : x7.length = j := by rw [hx, List.length_map, List.length_take]; omega
    have hx' : x7 ++ [textM m[j]] = (m.take (j + 1)).map textM := by
      rw [List.take_succ_eq_append_getElem hj', List.map_append, hx]; rfl
    have hP : ∀ {v}, Ev (fun k => if formM m[j] = true then relation_Write.l1 k x4 ((x7 ++ [textM m[j]]).map ofL) L n (i : Int) m (m.length : Int) ((j + 1 : Nat) : Int) else some (⟨#[]⟩, 1)) v → Ev (fun k => relation_Write.l1 k x4 (x7.map ofL) L n (i : Int) m (m.length : Int) (j : Int)) v := by
      intro v h
      refine Ev.step (f := fun k => (relation_Formed.f k m[j].f0 m[j].f1 m[j].f2).bind fun t => if t = true then relation_Write.l1 k x4 ((x7 ++ [textM m[j]]).map ofL) L n (i : Int) m (m.length : Int) ((j + 1 : Nat) : Int) else some (⟨#[]⟩, 1)) (fun k => ?_) (Ev.bind hf h)
      simp only [relation_Write.l1, rt_at hj', ht, Option.bind_some, ew]
      rw [if_pos (by omega), if_pos (by omega), if_pos (by omega), if_pos (by rw [List.length_map]; omega), List.map_append]
      rfl
    obtain ⟨i1, i2, i3⟩ := ih (j + 1) (by omega) (x7 ++ [textM m[j]]) hx'
    rw [drop_at hj', List.all_cons]
    cases hc : formM m[j] with
    | false =>
      rw [hc] at hP
      rw [Bool.false_and]
      refine ⟨fun _ => hP ?_, fun h => by simp at h, fun h => by simp at h⟩
      simp only [Bool.false_eq_true, if_false]
      exact Ev.now _
    | true =>
      rw [hc] at hP
      simp only [if_true] at hP
      rw [Bool.true_and]
      exact ⟨fun h => hP (i1 h), fun h h0 => hP (i2 h h0), fun h h0 v hv => hP (i3 h h0 v hv)⟩
theorem write_l0 (L : List (List S46)) (hL : (L.map rowW).sum ≤ 1000000000) : ∀ (d i : Nat), i + d = L.length → ∀ x4 : List B, x4 = (L.take i).map rowT →
    Ev (fun k => relation_Write.l0 k (x4.map ofL) L (L.length : Int) (i : Int)) (if okL (L.drop i) = true then (ofL (textsM L), 0) else (⟨#[]⟩, 1)) := by
  have hLl := rows_length L
  intro d
  induction d with
  | zero =>
    intro i hi x4 hx
    obtain rfl : i = L.length := by omega
    rw [List.take_length] at hx
    have hjb := joinB_ofL (L.map rowT) [44, 32]
    have hlen := textsM_len L
    rw [List.drop_length]
    simp only [okL, List.all_nil, if_true]
    refine Ev.step (f := fun _ => some (ofL (textsM L), 0)) (fun k => ?_) (Ev.now _)
    have hJ : strings_Join.f (x4.map ofL) ⟨#[44, 32]⟩ = some (ofL (textsM L)) := by
      have e : joinB (x4.map ofL) ⟨#[44, 32]⟩ = ofL (textsM L) := by rw [hx]; exact hjb
      have hl4 : (x4.map ofL).length = L.length := by rw [hx, List.length_map, List.length_map]
      unfold strings_Join.f
      rw [e, ofL_size, if_pos (by constructor <;> omega)]
    simp only [relation_Write.l0]
    rw [if_neg (by omega), hJ]
    rfl
  | succ d ih =>
    intro i hi x4 hx
    have hi' : i < L.length := by omega
    have hrow := rowW_mem (List.getElem_mem hi')
    have hrw : rowW L[i] = (L[i].map relW).sum + 1 := rfl
    have hm : (L[i].map relW).sum ≤ 10000000000 := by omega
    have h4 : (x4.map ofL).length = i := by rw [hx, List.length_map, List.length_map, List.length_take]; omega
    have hx' : x4 ++ [rowT L[i]] = (L.take (i + 1)).map rowT := by
      rw [List.take_succ_eq_append_getElem hi', List.map_append, hx]; rfl
    have hn := ih (i + 1) (by omega) (x4 ++ [rowT L[i]]) hx'
    obtain ⟨i1, i2, i3⟩ := write_l1 L (x4.map ofL) i (L.length : Int) L[i] hm (by omega) (by omega) L[i].length 0 (by omega) [] (by simp)
    have hP : ∀ {v}, Ev (fun k => relation_Write.l1 k (x4.map ofL) (([] : List B).map ofL) L (L.length : Int) (i : Int) L[i] (L[i].length : Int) ((0 : Nat) : Int)) v → Ev (fun k => relation_Write.l0 k (x4.map ofL) L (L.length : Int) (i : Int)) v := by
      intro v h
      refine Ev.step (f := _) (fun k => ?_) h
      simp only [relation_Write.l0, rd_at hi']
      rw [if_pos (by omega), if_pos (by omega), if_pos (by omega)]
      rfl
    rw [List.drop_zero] at i1 i2 i3
    rw [drop_at hi', okL, List.all_cons]
    cases hc : L[i].all formM with
    | false =>
      rw [Bool.and_false, Bool.false_and]
      simp only [Bool.false_eq_true, if_false]
      exact hP (i1 hc)
    | true =>
      rw [Bool.and_true]
      by_cases h0 : L[i] = []
      · rw [h0]
        simp only [List.isEmpty_nil, Bool.not_true, Bool.false_and, Bool.false_eq_true, if_false]
        have := i2 hc h0
        exact hP this
      · have hne : (!L[i].isEmpty) = true := by simpa using h0
        rw [hne, Bool.true_and]
        refine hP (i3 hc h0 _ ?_)
        rw [List.map_append] at hn
        exact hn
theorem write_ev (L : List (List S46)) (hL : (L.map rowW).sum ≤ 1000000000) : Ev (fun k => relation_Write.f k L) (if okL L = true then (ofL (textsM L), 0) else (⟨#[]⟩, 1)) := by
  have := write_l0 L hL L.length 0 (by omega) [] (by simp)
  rw [List.drop_zero] at this
  exact this
end Go.Proofs.YtmocooihkobdjaaDoor.Model
end
section
set_option linter.unusedVariables false
set_option linter.unusedSimpArgs false
namespace Go.Proofs.YtmocooihkobdjaaDoor.Model
open Go.RowKit Go.Proofs.YtmocooihkobdjaaDoor.G Go.Proofs.YtmocooihkobdjaaDoorW.PrintWords Go.Proofs.YtmocooihkobdjaaDoorW.PrintLast Go.Proofs.YtmocooihkobdjaaDoor.Ver
def singles (l : List S46) : List (List S46) := l.map (fun x => [x])
theorem singles_weigh (l : List S46) : ((singles l).map rowW).sum ≤ 2 * (l.map relW).sum := by
  unfold singles
  induction l with
  | nil => simp
  | cons x l ih =>
    simp only [List.map_cons, List.sum_cons] at ih ⊢
    have h1 : rowW [x] = relW x + 1 := by simp [rowW]
    have h2 : 1 ≤ relW x := by unfold relW; omega
    omega
theorem singles_ok (l : List S46) : okL (singles l) = l.all formM := by
  unfold okL singles
  induction l with
  | nil => rfl
  | cons x l ih => rw [List.map_cons, List.all_cons, List.all_cons, ih]; simp
theorem writelist_ev (l : List S46) (hl : (l.map relW).sum ≤ 400000000) : Ev (fun k => relation_WriteList.f k l) (if l.all formM = true then (ofL (textsM (singles l)), 0) else (⟨#[]⟩, 1)) := by
  have hlen := row_length l
  have hsw := singles_weigh l
  have key : ∀ (d i : Nat), i + d = l.length → ∀ x4 : List (List S46), x4 = singles (l.take i) → Ev (fun k => relation_WriteList.l0 k x4 l (l.length : Int) (i : Int)) (if l.all formM = true then (ofL (textsM (singles l)), 0) else (⟨#[]⟩, 1)) := by
    intro d
    induction d with
    | zero =>
      intro i hi x4 hx
      obtain rfl : i = l.length := by omega
      rw [List.take_length] at hx
      subst hx
      have hw := write_ev (singles l) (by omega)
      rw [singles_ok] at hw
      refine Ev.step (f := fun k => (relation_Write.f k (singles l)).bind fun bt => some (bt.1, bt.2)) (fun k => ?_) (Ev.bind hw (Ev.now _))
      simp only [relation_WriteList.l0]
      rw [if_neg (by omega)]
    | succ d ih =>
      intro i hi x4 hx
      have hi' : i < l.length := by omega
      have ew : wrap64 ((i : Int) + 1) = ((i + 1 : Nat) : Int) := by rw [wrap_id (by omega) (by omega)]; omega
      have h4 : x4.length = i := by rw [hx]; unfold singles; rw [List.length_map, List.length_take]; omega
      have hn := ih (i + 1) (by omega) (x4 ++ [[l[i]]]) (by rw [List.take_succ_eq_append_getElem hi', hx]; unfold singles; rw [List.map_append]; rfl)
      refine Ev.step (f := _) (fun k => ?_) hn
      simp only [relation_WriteList.l0, rt_at hi', ew]
      rw [if_pos (by omega), if_pos (by omega), if_pos (by omega), if_pos (by omega)]
  unfold relation_WriteList.f
  exact key l.length 0 (by omega) [] rfl
end Go.Proofs.YtmocooihkobdjaaDoor.Model
end
section
set_option linter.unusedVariables false
set_option linter.unusedSimpArgs false
namespace Go.Proofs.YtmocooihkobdjaaDoor.Model
open Go.RowKit Go.Proofs.YtmocooihkobdjaaDoor.G Go.Proofs.YtmocooihkobdjaaDoorW.PrintWords Go.Proofs.YtmocooihkobdjaaDoorW.PrintLast Go.Proofs.YtmocooihkobdjaaDoor.Ver
def tLst (o : List S46) : ByteArray := if okL [o] = true then ofL (textsM [o]) else ⟨#[]⟩
def tRel (x : S46) : ByteArray := if [x].all formM = true then ofL (textsM (singles [x])) else ⟨#[]⟩
def lineI (o : List S46) : B := (request_Write.line request_Write.insW (tLst o)).data.toList
def lineF (x : S46) : B := (request_Write.line request_Write.forbW (tRel x)).data.toList
def lineW (x : S48) : B := (request_Write.line (request_Write.wishW x.f0) (tRel x.f1)).data.toList
def insS (L : List (List S46)) : B := (L.map lineI).flatten
def forbS (F : List S46) : B := (F.map lineF).flatten
def wisS (W : List S48) : B := (W.map lineW).flatten
theorem ofL_len (s : ByteArray) : s.data.toList.length = s.size := by simp
theorem app_toL (a b : ByteArray) : (a ++ b).data.toList = a.data.toList ++ b.data.toList := by rw [app_ofL, toL_ofL]
theorem line_toL (w t : ByteArray) : (request_Write.line w t).data.toList = ((w.data.toList ++ [32]) ++ t.data.toList) ++ [10] := by
  unfold request_Write.line
  rw [app_toL, app_toL, app_toL]
theorem line_len (w t : ByteArray) (hw : w.size ≤ 7) : (request_Write.line w t).data.toList.length ≤ t.size + 9 := by
  rw [line_toL]
  simp only [List.length_append, ofL_len, List.length_cons, List.length_nil]
  omega
theorem tLst_len (o : List S46) : (tLst o).size ≤ 9 * rowW o := by
  unfold tLst
  split
  · rw [ofL_size]
    have := textsM_len [o]
    simp only [List.map_cons, List.map_nil, List.sum_cons, List.sum_nil] at this
    omega
  · exact Nat.zero_le _
theorem tRel_len (x : S46) : (tRel x).size ≤ 18 * relW x := by
  unfold tRel
  split
  · rw [ofL_size]
    have h1 := textsM_len (singles [x])
    have h2 := singles_weigh [x]
    simp only [List.map_cons, List.map_nil, List.sum_cons, List.sum_nil] at h2
    omega
  · exact Nat.zero_le _
theorem insS_len (L : List (List S46)) : (insS L).length ≤ 18 * (L.map rowW).sum := by
  unfold insS
  induction L with
  | nil => simp
  | cons o L ih =>
    rw [List.map_cons, List.flatten_cons, List.length_append, List.map_cons, List.sum_cons]
    have h1 : (lineI o).length ≤ (tLst o).size + 9 := line_len _ _ (by decide)
    have h2 := tLst_len o
    have h3 : rowW o = (o.map relW).sum + 1 := rfl
    omega
theorem forbS_len (F : List S46) : (forbS F).length ≤ 27 * (F.map relW).sum := by
  unfold forbS
  induction F with
  | nil => simp
  | cons x F ih =>
    rw [List.map_cons, List.flatten_cons, List.length_append, List.map_cons, List.sum_cons]
    have h1 : (lineF x).length ≤ (tRel x).size + 9 := line_len _ _ (by decide)
    have h2 := tRel_len x
    have h3 : 1 ≤ relW x := by unfold relW; omega
    omega
theorem wishW_len (b : Bool) : (request_Write.wishW b).size ≤ 7 := by cases b <;> decide
theorem wisS_len (W : List S48) : (wisS W).length ≤ 27 * ((wrels W).map relW).sum := by
  unfold wisS wrels
  induction W with
  | nil => simp
  | cons x W ih =>
    rw [List.map_cons, List.flatten_cons, List.length_append, List.map_cons, List.map_cons, List.sum_cons]
    have h1 : (lineW x).length ≤ (tRel x.f1).size + 9 := line_len _ _ (wishW_len _)
    have h2 := tRel_len x.f1
    have h3 : 1 ≤ relW x.f1 := by unfold relW; omega
    omega
theorem wr1 (o : List S46) (h : rowW o ≤ 8388608) : ∃ z, Ev (fun k => relation_Write.f k [o]) (tLst o, z) := by
  have := write_ev [o] (by simp only [List.map_cons, List.map_nil, List.sum_cons, List.sum_nil]; omega)
  unfold tLst
  cases hc : okL [o] with
  | true => rw [hc] at this; exact ⟨_, this⟩
  | false => rw [hc] at this; exact ⟨_, this⟩
theorem wl1 (x : S46) (h : relW x ≤ 8388608) : ∃ z, Ev (fun k => relation_WriteList.f k [x]) (tRel x, z) := by
  have := writelist_ev [x] (by simp only [List.map_cons, List.map_nil, List.sum_cons, List.sum_nil]; omega)
  unfold tRel
  cases hc : [x].all formM with
  | true => rw [hc] at this; exact ⟨_, this⟩
  | false => rw [hc] at this; exact ⟨_, this⟩
theorem ins_ev : ∀ (L : List (List S46)) (a : B), (∀ o ∈ L, rowW o ≤ 8388608) → a.length + (insS L).length ≤ 1099511627776 → Ev (fun k => request_Write.ins k L a) (a ++ insS L)
  | [], a, _, _ => by
    have e : a ++ insS [] = a := by simp [insS]
    rw [e]
    exact Ev.now _
  | o :: L, a, h, hs => by
    obtain ⟨z, hz⟩ := wr1 o (h o (List.mem_cons_self ..))
    have e : insS (o :: L) = lineI o ++ insS L := rfl
    rw [e, List.length_append] at hs
    rw [e, ← List.append_assoc]
    have ih := ins_ev L (a ++ lineI o) (fun m hm => h m (List.mem_cons_of_mem _ hm)) (by rw [List.length_append]; omega)
    refine Ev.bind hz ?_
    have hc : (a ++ (request_Write.line request_Write.insW (tLst o)).data.toList).length ≤ 1099511627776 := by
      rw [List.length_append]
      have : (request_Write.line request_Write.insW (tLst o)).data.toList.length = (lineI o).length := rfl
      omega
    simp only [if_pos hc]
    exact ih
theorem forb_ev : ∀ (L : List S46) (a : B), (∀ o ∈ L, relW o ≤ 8388608) → a.length + (forbS L).length ≤ 1099511627776 → Ev (fun k => request_Write.forb k L a) (a ++ forbS L)
  | [], a, _, _ => by
    have e : a ++ forbS [] = a := by simp [forbS]
    rw [e]
    exact Ev.now _
  | o :: L, a, h, hs => by
    obtain ⟨z, hz⟩ := wl1 o (h o (List.mem_cons_self ..))
    have e : forbS (o :: L) = lineF o ++ forbS L := rfl
    rw [e, List.length_append] at hs
    rw [e, ← List.append_assoc]
    have ih := forb_ev L (a ++ lineF o) (fun m hm => h m (List.mem_cons_of_mem _ hm)) (by rw [List.length_append]; omega)
    refine Ev.bind hz ?_
    have hc : (a ++ (request_Write.line request_Write.forbW (tRel o)).data.toList).length ≤ 1099511627776 := by
      rw [List.length_append]
      have : (request_Write.line request_Write.forbW (tRel o)).data.toList.length = (lineF o).length := rfl
      omega
    simp only [if_pos hc]
    exact ih
theorem wis_ev : ∀ (L : List S48) (a : B), (∀ o ∈ L, relW o.f1 ≤ 8388608) → a.length + (wisS L).length ≤ 1099511627776 → Ev (fun k => request_Write.wis k L a) (a ++ wisS L)
  | [], a, _, _ => by
    have e : a ++ wisS [] = a := by simp [wisS]
    rw [e]
    exact Ev.now _
  | o :: L, a, h, hs => by
    obtain ⟨z, hz⟩ := wl1 o.f1 (h o (List.mem_cons_self ..))
    have e : wisS (o :: L) = lineW o ++ wisS L := rfl
    rw [e, List.length_append] at hs
    rw [e, ← List.append_assoc]
    have ih := wis_ev L (a ++ lineW o) (fun m hm => h m (List.mem_cons_of_mem _ hm)) (by rw [List.length_append]; omega)
    refine Ev.bind hz ?_
    have hc : (a ++ (request_Write.line (request_Write.wishW o.f0) (tRel o.f1)).data.toList).length ≤ 1099511627776 := by
      rw [List.length_append]
      have : (request_Write.line (request_Write.wishW o.f0) (tRel o.f1)).data.toList.length = (lineW o).length := rfl
      omega
    simp only [if_pos hc]
    exact ih
def reqText (L : List (List S46)) (F : List S46) (W : List S48) : B := (([] ++ insS L) ++ forbS F) ++ wisS W
theorem three_small (a b c l1 l2 l3 : Nat) (h1 : a + 1 ≤ 8388608) (h2 : b + 1 ≤ 8388608) (h3 : c + 1 ≤ 8388608) (s1 : l1 ≤ 18 * a) (s2 : l2 ≤ 27 * b) (s3 : l3 ≤ 27 * c) : l1 + (l2 + l3) ≤ 999999999 := by omega
theorem four_small (p q r s : Nat) (h : p + q + r + s ≤ 8388608) : p ≤ 100000000 ∧ r ≤ 100000000 ∧ s ≤ 100000000 := by omega
theorem mem_small (a b : Nat) (h : b + 1 ≤ 8388608) (h2 : a ≤ b) : a ≤ 8388608 := by omega
theorem req_small {L : List (List S46)} {F : List S46} {W : List S48} (h : reqW L F W ≤ 8388608) :
    (∀ o ∈ L, rowW o ≤ 8388608) ∧ (∀ o ∈ F, relW o ≤ 8388608) ∧ (∀ o ∈ W, relW o.f1 ≤ 8388608) ∧ (insS L).length + ((forbS F).length + (wisS W).length) ≤ 999999999 ∧ L.length ≤ 100000000 ∧ F.length ≤ 100000000 ∧ W.length ≤ 100000000 :=
  have ⟨h1, h2, h3, h4, h5⟩ := req_parts h
  ⟨fun o ho => mem_small _ _ h1 (rowW_mem ho), fun o ho => mem_small _ _ h2 (relW_mem ho), fun o ho => mem_small _ _ h3 (relW_mem (l := wrels W) (List.mem_map.2 ⟨o, ho, rfl⟩)),
    three_small _ _ _ _ _ _ h1 h2 h3 (insS_len L) (forbS_len F) (wisS_len W), four_small _ _ _ _ h4⟩
theorem reqwrite_ev (L : List (List S46)) (F : List S46) (W : List S48) (h : reqW L F W ≤ 8388608) : Ev (fun k => request_Write.f k L F W) (if reqOk L F W = true then (ofL (reqText L F W), 0) else (⟨#[]⟩, 1)) := by
  obtain ⟨a1, a2, a3, a4, _⟩ := req_small h
  unfold request_Write.f
  refine Ev.bind (reqform_ev L F W h) ?_
  cases reqOk L F W with
  | false =>
    simp only [Bool.false_eq_true, if_false]
    exact Ev.now _
  | true =>
    simp only [if_true]
    refine Ev.bind (ins_ev L [] a1 (by simp only [List.length_nil]; omega)) ?_
    refine Ev.bind (forb_ev F _ a2 (by simp only [List.length_append, List.length_nil]; omega)) ?_
    refine Ev.bind (wis_ev W _ a3 (by simp only [List.length_append, List.length_nil]; omega)) ?_
    exact Ev.now _
theorem lineI_at (o : List S46) : lineI o = (([105, 110, 115, 116, 97, 108, 108, 32] : B) ++ (tLst o).data.toList) ++ [10] := by unfold lineI; rw [line_toL]; rfl
theorem lineF_at (x : S46) : lineF x = (([102, 111, 114, 98, 105, 100, 32] : B) ++ (tRel x).data.toList) ++ [10] := by unfold lineF; rw [line_toL]; rfl
theorem lineW_at (x : S48) : lineW x = ((if x.f0 = true then ([97, 118, 111, 105, 100, 32] : B) else [112, 114, 101, 102, 101, 114, 32]) ++ (tRel x.f1).data.toList) ++ [10] := by
  unfold lineW
  rw [line_toL]
  cases x.f0 <;> rfl
end Go.Proofs.YtmocooihkobdjaaDoor.Model
end
section
set_option linter.unusedVariables false
set_option linter.unusedSimpArgs false
namespace Go.Proofs.YtmocooihkobdjaaDoor.Model
open Go.RowKit Go.Proofs.YtmocooihkobdjaaDoor.G Go.Proofs.YtmocooihkobdjaaDoorW.PrintWords Go.Proofs.YtmocooihkobdjaaDoorW.PrintLast Go.Proofs.YtmocooihkobdjaaDoor.Ver
theorem wrd_ok {c : UInt8} (h : wrdB c = true) : c ≠ 10 ∧ blk c = false := byte_all (P := fun c => wrdB c = true → c ≠ 10 ∧ blk c = false) (by decide +kernel) c h
theorem mrk_ok {c : UInt8} (h : mrkB c = true) : c ≠ 10 := byte_all (P := fun c => mrkB c = true → c ≠ 10) (by decide +kernel) c h
theorem ends_all {l : B} (hn : l ≠ []) (h : ∀ x ∈ l, blk x = false) : Ends l := by
  rcases List.eq_nil_or_concat l with e | ⟨m, c, e⟩
  · exact absurd e hn
  · have e' : l = m ++ [c] := by simpa using e
    exact ⟨m, c, e', h c (by rw [e']; simp)⟩
theorem text_ok {x : S46} (h : formM x = true) : (∀ c ∈ textM x, c ≠ 10) ∧ Ends (textM x) := by
  obtain ⟨hn, hv⟩ := form_parts h
  obtain ⟨n1, n2⟩ := name_wrd hn
  unfold textM
  rcases hv with ⟨e0, _⟩ | ⟨e0, e1, e2⟩
  · rw [if_pos e0]
    exact ⟨fun c hc => (wrd_ok (n1 c hc)).1, ends_all n2 (fun c hc => (wrd_ok (n1 c hc)).2)⟩
  · rw [if_neg e0]
    obtain ⟨_, o1, _⟩ := op_word e1
    obtain ⟨v1, _⟩ := ver_wrd e2
    refine ⟨fun c hc => ?_, ?_⟩
    · simp only [List.mem_append, List.mem_cons, List.not_mem_nil, or_false] at hc
      rcases hc with hc | (rfl | rfl) | hc | rfl | hc | rfl
      · exact (wrd_ok (n1 c hc)).1
      · decide
      · decide
      · exact mrk_ok (o1 c hc)
      · decide
      · exact (wrd_ok (v1 c hc)).1
      · decide
    · refine Ends.app (Ends.app (Ends.app (Ends.app (Ends.app ?_ _) _) _) _) _
      exact ⟨[], 41, rfl, rfl⟩
theorem row_ok : ∀ (m : List S46) (x : S46), (∀ y ∈ x :: m, formM y = true) → (∀ c ∈ rowT (x :: m), c ≠ 10) ∧ Ends (rowT (x :: m))
  | [], x, h => by
    rw [rowT_cons]
    have := text_ok (h x (List.mem_cons_self ..))
    simpa [Lib.joinTail] using this
  | y :: m, x, h => by
    have ih := row_ok m y (fun z hz => h z (List.mem_cons_of_mem _ hz))
    have hx := text_ok (h x (List.mem_cons_self ..))
    rw [rowT_cons] at ih
    rw [rowT_cons, List.map_cons, joinTail_cons]
    refine ⟨fun c hc => ?_, Ends.app (Ends.app ih.2 _) _⟩
    rw [List.mem_append, List.mem_append] at hc
    rcases hc with hc | hc | hc
    · exact hx.1 c hc
    · simp only [List.mem_cons, List.not_mem_nil, or_false] at hc
      rcases hc with rfl | rfl | rfl <;> decide
    · exact ih.1 c hc
theorem texts_one (o : List S46) : textsM [o] = rowT o := by
  unfold textsM
  rw [List.map_cons, List.map_nil, Lib.join_cons]
  simp [Lib.joinTail]
def lnI (o : List S46) : B := wInstall ++ 32 :: rowT o
def lnF (x : S46) : B := wForbid ++ 32 :: rowT [x]
def lnW (x : S48) : B := (if x.f0 = true then wAvoid else wPrefer) ++ 32 :: rowT [x.f1]
theorem lineI_ln {o : List S46} (h : okL [o] = true) : lineI o = lnI o ++ [10] := by
  rw [lineI_at]
  unfold tLst lnI
  rw [if_pos h, toL_ofL, texts_one]
  simp [wInstall]
theorem lineF_ln {x : S46} (h : formM x = true) : lineF x = lnF x ++ [10] := by
  rw [lineF_at]
  unfold tRel lnF
  rw [if_pos (by simp [h]), toL_ofL]
  have e : singles [x] = [[x]] := rfl
  rw [e, texts_one]
  simp [wForbid]
theorem lineW_ln {x : S48} (h : formM x.f1 = true) : lineW x = lnW x ++ [10] := by
  rw [lineW_at]
  unfold tRel lnW
  have hc : [x.f1].all formM = true := by simp [h]
  rw [if_pos hc, toL_ofL]
  have e : singles [x.f1] = [[x.f1]] := rfl
  rw [e, texts_one]
  cases x.f0 <;> simp [wAvoid, wPrefer]
theorem wr_of {w : B} (hw : ∀ c ∈ w, blk c = false) (r : B) : wordM (w ++ 32 :: r) = w ∧ restM (w ++ 32 :: r) = 32 :: r := by
  have e1 : wordM (w ++ 32 :: r) = w := by
    unfold wordM
    rw [List.takeWhile_append_of_pos (fun c hc => by simp [hw c hc]), List.takeWhile_cons_of_neg (by decide), List.append_nil]
  refine ⟨e1, ?_⟩
  have := wd_rest (w ++ 32 :: r)
  rw [e1] at this
  exact List.append_cancel_left this
theorem read_blank (bars : Bool) (l : B) : readM bars (32 :: l) = readM bars l := by
  unfold readM
  have e : dg (32 :: l) = dg l := by unfold dg; rw [List.dropWhile_cons_of_pos (by decide)]
  rw [e]
def Fine (t : B) : Prop := trimM t = t ∧ idleM t = false ∧ ∀ c ∈ t, c ≠ 10
theorem fine_of {c : UInt8} {w r : B} (hc : blk c = false) (hi : (c == 35) = false) (hw : ∀ x ∈ c :: w, x ≠ 10) (hr : ∀ x ∈ r, x ≠ 10) (he : Ends r) : Fine ((c :: w) ++ 32 :: r) := by
  refine ⟨?_, ?_, fun x hx => ?_⟩
  · have e : (c :: w) ++ 32 :: r = c :: ((w ++ [32]) ++ r) := by simp
    rw [e]
    exact trim_id hc (Ends.app (a := c :: (w ++ [32])) he)
  · exact hi
  · rw [List.mem_append] at hx
    rcases hx with hx | hx
    · exact hw x hx
    · rw [List.mem_cons] at hx
      rcases hx with rfl | hx
      · decide
      · exact hr x hx
theorem rowne {o : List S46} (h : okL [o] = true) : ∃ x m, o = x :: m ∧ ∀ y ∈ x :: m, formM y = true := by
  unfold okL at h
  rw [List.all_cons, List.all_nil, Bool.and_true, Bool.and_eq_true] at h
  cases o with
  | nil => simp at h
  | cons x m => exact ⟨x, m, rfl, fun y hy => List.all_eq_true.1 h.2 y hy⟩
theorem step_I {o : List S46} (h : okL [o] = true) (q : Q) : Fine (lnI o) ∧ stepM (lnI o) q = ((q.1 ++ [o], q.2.1, q.2.2), 0) := by
  obtain ⟨x, m, rfl, hm⟩ := rowne h
  obtain ⟨r1, r2⟩ := row_ok m x hm
  refine ⟨fine_of (by decide) (by decide) (by decide) r1 r2, ?_⟩
  obtain ⟨e1, e2⟩ := wr_of (w := wInstall) (by decide) (rowT (x :: m))
  have hr := read_texts true [x :: m] h (.inr rfl)
  rw [texts_one] at hr
  unfold lnI stepM
  rw [e1, e2, if_neg (by simp), if_pos rfl, read_blank, hr.1, hr.2]
theorem ok_one {x : S46} (h : formM x = true) : okL [[x]] = true := by simp [okL, h]
theorem step_F {x : S46} (h : formM x = true) (q : Q) : Fine (lnF x) ∧ stepM (lnF x) q = ((q.1, q.2.1 ++ [x], q.2.2), 0) := by
  obtain ⟨r1, r2⟩ := row_ok [] x (by simpa using h)
  refine ⟨fine_of (by decide) (by decide) (by decide) r1 r2, ?_⟩
  obtain ⟨e1, e2⟩ := wr_of (w := wForbid) (by decide) (rowT [x])
  have hr := read_texts false [[x]] (ok_one h) (.inl (by simp))
  rw [texts_one] at hr
  unfold lnF stepM
  rw [e1, e2, if_neg (by simp), if_neg (by decide), if_pos rfl, read_blank, hr.1, hr.2]
  simp
theorem step_W {x : S48} (h : formM x.f1 = true) (q : Q) : Fine (lnW x) ∧ stepM (lnW x) q = ((q.1, q.2.1, q.2.2 ++ [x]), 0) := by
  obtain ⟨b, y⟩ := x
  obtain ⟨r1, r2⟩ := row_ok [] y (by simpa using h)
  have hr := read_texts false [[y]] (ok_one h) (.inl (by simp))
  rw [texts_one] at hr
  cases b with
  | true =>
    refine ⟨fine_of (c := 97) (w := [118, 111, 105, 100]) (by decide) (by decide) (by decide) r1 r2, ?_⟩
    obtain ⟨e1, e2⟩ := wr_of (w := wAvoid) (by decide) (rowT [y])
    unfold lnW stepM
    simp only [if_true]
    rw [e1, e2, if_neg (by simp), if_neg (by decide), if_neg (by decide), if_neg (by decide), if_pos rfl, read_blank, hr.1, hr.2]
    rfl
  | false =>
    refine ⟨fine_of (c := 112) (w := [114, 101, 102, 101, 114]) (by decide) (by decide) (by decide) r1 r2, ?_⟩
    obtain ⟨e1, e2⟩ := wr_of (w := wPrefer) (by decide) (rowT [y])
    unfold lnW stepM
    simp only [Bool.false_eq_true, if_false]
    rw [e1, e2, if_neg (by simp), if_neg (by decide), if_neg (by decide), if_pos rfl, read_blank, hr.1, hr.2]
    rfl
def lnsM (L : List (List S46)) (F : List S46) (W : List S48) : List B := L.map lnI ++ (F.map lnF ++ W.map lnW)
def full10 (ls : List B) : B := (ls.map (· ++ [10])).flatten
theorem full10_app (a b : List B) : full10 (a ++ b) = full10 a ++ full10 b := by unfold full10; rw [List.map_append, List.flatten_append]
theorem text_lns {L : List (List S46)} {F : List S46} {W : List S48} (h : reqOk L F W = true) : reqText L F W = full10 (lnsM L F W) := by
  unfold reqOk at h
  rw [Bool.and_eq_true, Bool.and_eq_true] at h
  obtain ⟨h1, h2, h3⟩ := h
  have a1 : insS L = full10 (L.map lnI) := by
    unfold insS full10
    rw [List.map_map]
    congr 1
    refine List.map_congr_left (fun o ho => ?_)
    have : okL [o] = true := by
      have := List.all_eq_true.1 h1 o ho
      simpa [okL] using this
    exact lineI_ln this
  have a2 : forbS F = full10 (F.map lnF) := by
    unfold forbS full10
    rw [List.map_map]
    congr 1
    exact List.map_congr_left (fun o ho => lineF_ln (List.all_eq_true.1 h3 o ho))
  have a3 : wisS W = full10 (W.map lnW) := by
    unfold wisS full10
    rw [List.map_map]
    congr 1
    exact List.map_congr_left (fun o ho => lineW_ln (List.all_eq_true.1 h2 _ (List.mem_map.2 ⟨o, ho, rfl⟩)))
  unfold reqText lnsM
  rw [full10_app, full10_app, a1, a2, a3, List.nil_append, List.append_assoc]
theorem split_line : ∀ (t r : B), (∀ c ∈ t, c ≠ 10) → splitL (t ++ 10 :: r) = t :: splitL r
  | [], r, _ => by rw [List.nil_append, splitL, if_pos rfl]
  | c :: t, r, h => by
    have ih := split_line t r (fun x hx => h x (List.mem_cons_of_mem _ hx))
    rw [List.cons_append, splitL, if_neg (h c (List.mem_cons_self ..)), ih]
theorem split_full : ∀ (ls : List B), (∀ l ∈ ls, ∀ c ∈ l, c ≠ 10) → splitL (full10 ls) = ls ++ [[]]
  | [], _ => rfl
  | l :: ls, h => by
    have e : full10 (l :: ls) = l ++ 10 :: full10 ls := by unfold full10; rw [List.map_cons, List.flatten_cons]; simp
    rw [e, split_line l _ (h l (List.mem_cons_self ..)), split_full ls (fun x hx => h x (List.mem_cons_of_mem _ hx))]
    rfl
theorem lines_cons {t : B} (ls : List B) (i : Nat) (q q' : Q) (hf : Fine t) (hs : stepM t q = (q', 0)) : linesM (t :: ls) i q = linesM ls (i + 1) q' := by
  obtain ⟨h1, h2, _⟩ := hf
  rw [linesM, h1, h2, if_neg (by decide), hs]
  simp
theorem lines_I : ∀ (L : List (List S46)) (ls : List B) (i : Nat) (q : Q), okL L = true → linesM (L.map lnI ++ ls) i q = linesM ls (i + L.length) (q.1 ++ L, q.2.1, q.2.2)
  | [], ls, i, q, _ => by simp
  | o :: L, ls, i, q, h => by
    unfold okL at h
    rw [List.all_cons, Bool.and_eq_true] at h
    have ho : okL [o] = true := by simpa [okL] using h.1
    obtain ⟨hf, hs⟩ := step_I ho q
    rw [List.map_cons, List.cons_append, lines_cons _ i q _ hf hs, lines_I L ls (i + 1) _ h.2]
    simp only [List.append_assoc, List.singleton_append, List.length_cons]
    congr 1
    omega
theorem lines_F : ∀ (F : List S46) (ls : List B) (i : Nat) (q : Q), F.all formM = true → linesM (F.map lnF ++ ls) i q = linesM ls (i + F.length) (q.1, q.2.1 ++ F, q.2.2)
  | [], ls, i, q, _ => by simp
  | x :: F, ls, i, q, h => by
    rw [List.all_cons, Bool.and_eq_true] at h
    obtain ⟨hf, hs⟩ := step_F h.1 q
    rw [List.map_cons, List.cons_append, lines_cons _ i q _ hf hs, lines_F F ls (i + 1) _ h.2]
    simp only [List.append_assoc, List.singleton_append, List.length_cons]
    congr 1
    omega
theorem lines_W : ∀ (W : List S48) (ls : List B) (i : Nat) (q : Q), (wrels W).all formM = true → linesM (W.map lnW ++ ls) i q = linesM ls (i + W.length) (q.1, q.2.1, q.2.2 ++ W)
  | [], ls, i, q, _ => by simp
  | x :: W, ls, i, q, h => by
    unfold wrels at h
    rw [List.map_cons, List.all_cons, Bool.and_eq_true] at h
    obtain ⟨hf, hs⟩ := step_W h.1 q
    rw [List.map_cons, List.cons_append, lines_cons _ i q _ hf hs, lines_W W ls (i + 1) _ h.2]
    simp only [List.append_assoc, List.singleton_append, List.length_cons]
    congr 1
    omega
theorem lns_no10 {L : List (List S46)} {F : List S46} {W : List S48} (h : reqOk L F W = true) : ∀ l ∈ lnsM L F W, Fine l := by
  unfold reqOk at h
  rw [Bool.and_eq_true, Bool.and_eq_true] at h
  obtain ⟨h1, h2, h3⟩ := h
  intro l hl
  unfold lnsM at hl
  rw [List.mem_append, List.mem_append, List.mem_map, List.mem_map, List.mem_map] at hl
  rcases hl with ⟨o, ho, rfl⟩ | ⟨o, ho, rfl⟩ | ⟨o, ho, rfl⟩
  · have : okL [o] = true := by
      have := List.all_eq_true.1 h1 o ho
      simpa [okL] using this
    exact (step_I this ([], [], [])).1
  · exact (step_F (List.all_eq_true.1 h3 o ho) ([], [], [])).1
  · exact (step_W (List.all_eq_true.1 h2 _ (List.mem_map.2 ⟨o, ho, rfl⟩)) ([], [], [])).1
theorem req_back {L : List (List S46)} {F : List S46} {W : List S48} (h : reqOk L F W = true) : reqM (reqText L F W) = (L, F, W, 0, 0) := by
  have hn := lns_no10 h
  rw [text_lns h]
  unfold reqM
  rw [split_full _ (fun l hl => (hn l hl).2.2)]
  unfold reqOk at h
  rw [Bool.and_eq_true, Bool.and_eq_true] at h
  obtain ⟨h1, h2, h3⟩ := h
  unfold lnsM
  rw [List.append_assoc, lines_I L _ 0 _ h1, List.append_assoc, lines_F F _ _ _ h3, lines_W W _ _ _ h2]
  have e : idleM (trimM []) = true := rfl
  simp [linesM, e]
theorem text_len {L : List (List S46)} {F : List S46} {W : List S48} (h : reqW L F W ≤ 8388608) : (reqText L F W).length ≤ 999999999 := by
  have := (req_small h).2.2.2.1
  unfold reqText
  simp only [List.length_append, List.length_nil]
  omega
end Go.Proofs.YtmocooihkobdjaaDoor.Model
end
section
set_option linter.unusedVariables false
set_option linter.unusedSimpArgs false
namespace Go.Proofs.YtmocooihkobdjaaDoor.Model
open Go.RowKit Go.Proofs.YtmocooihkobdjaaDoor.G Go.Proofs.YtmocooihkobdjaaDoorW.PrintWords Go.Proofs.YtmocooihkobdjaaDoorW.PrintLast Go.Proofs.YtmocooihkobdjaaDoor.Ver
theorem copyrels_ev (l : List S46) (h : l.length ≤ 100000000) : Ev (fun k => depotref00_CopyRels.f k l) l := by
  have key : ∀ (d i : Nat), i + d = l.length → ∀ acc : List S46, acc.length = i → Ev (fun k => depotref00_CopyRels.l0 k l acc (i : Int)) (acc ++ l.drop i) := by
    intro d
    induction d with
    | zero =>
      intro i hi acc ha
      rw [List.drop_of_length_le (by omega), List.append_nil]
      refine Ev.step (f := fun _ => some acc) (fun k => ?_) (Ev.now _)
      simp only [depotref00_CopyRels.l0]
      rw [if_neg (by omega)]
    | succ d ih =>
      intro i hi acc ha
      have hi' : i < l.length := by omega
      have ew : wrap64 ((i : Int) + 1) = ((i + 1 : Nat) : Int) := by rw [wrap_id (by omega) (by omega)]; omega
      have hn := ih (i + 1) (by omega) (acc ++ [l[i]]) (by simp [ha])
      rw [drop_at hi', show acc ++ l[i] :: l.drop (i + 1) = (acc ++ [l[i]]) ++ l.drop (i + 1) by simp]
      refine Ev.step (f := _) (fun k => ?_) hn
      simp only [depotref00_CopyRels.l0, rt_at hi', ew]
      rw [if_pos (by omega), if_pos (by omega), if_pos (by omega)]
  have := key l.length 0 (by omega) [] rfl
  simpa [depotref00_CopyRels.f] using this
theorem copylists_ev (L : List (List S46)) (h : L.length ≤ 100000000) (hm : ∀ m ∈ L, m.length ≤ 100000000) : Ev (fun k => depotref00_CopyLists.f k L) L := by
  have key : ∀ (d i : Nat), i + d = L.length → ∀ acc : List (List S46), acc.length = i → Ev (fun k => depotref00_CopyLists.l0 k L acc (i : Int)) (acc ++ L.drop i) := by
    intro d
    induction d with
    | zero =>
      intro i hi acc ha
      rw [List.drop_of_length_le (by omega), List.append_nil]
      refine Ev.step (f := fun _ => some acc) (fun k => ?_) (Ev.now _)
      simp only [depotref00_CopyLists.l0]
      rw [if_neg (by omega)]
    | succ d ih =>
      intro i hi acc ha
      have hi' : i < L.length := by omega
      have ew : wrap64 ((i : Int) + 1) = ((i + 1 : Nat) : Int) := by rw [wrap_id (by omega) (by omega)]; omega
      have hn := ih (i + 1) (by omega) (acc ++ [L[i]]) (by simp [ha])
      rw [drop_at hi', show acc ++ L[i] :: L.drop (i + 1) = (acc ++ [L[i]]) ++ L.drop (i + 1) by simp]
      refine Ev.step (f := fun k => (depotref00_CopyRels.f k L[i]).bind fun t => if acc.length < 5864062014805 then depotref00_CopyLists.l0 k L (acc ++ [t]) ((i + 1 : Nat) : Int) else none) (fun k => ?_) (Ev.bind (copyrels_ev L[i] (hm _ (List.getElem_mem hi'))) ?_)
      · simp only [depotref00_CopyLists.l0, rd_at hi', ew]
        rw [if_pos (by omega), if_pos (by omega)]
      · simp only [if_pos (show acc.length < 5864062014805 by omega)]
        exact hn
  have := key L.length 0 (by omega) [] rfl
  simpa [depotref00_CopyLists.f] using this
theorem copyreq_ev (L : List (List S46)) (F : List S46) (W : List S48) (h : reqW L F W ≤ 8388608) : Ev (fun k => depotref00_CopyRequest.f k L F W) (L, F, W) := by
  obtain ⟨h1, h2, h3, h4, h5⟩ := req_parts h
  have hC := copylists_ev L (by omega) (fun m hm => by have := row_len hm; omega)
  have hR := copyrels_ev F (by omega)
  have hW : W.length ≤ 100000000 := by omega
  clear h h1 h2 h3 h4 h5
  have key : ∀ (d i : Nat), i + d = W.length → ∀ acc : List S48, acc = W.take i → Ev (fun k => depotref00_CopyRequest.l0 k acc (i : Int) L F W) (L, F, W) := by
    intro d
    induction d with
    | zero =>
      intro i hi acc ha
      obtain rfl : i = W.length := by omega
      rw [List.take_length] at ha
      subst ha
      refine Ev.step (f := fun k => (depotref00_CopyLists.f k L).bind fun t => (depotref00_CopyRels.f k F).bind fun u => some (t, u, acc)) (fun k => ?_) (Ev.bind hC (Ev.bind hR (Ev.now _)))
      simp only [depotref00_CopyRequest.l0]
      rw [if_neg (by omega)]
    | succ d ih =>
      intro i hi acc ha
      have hi' : i < W.length := by omega
      have ew : wrap64 ((i : Int) + 1) = ((i + 1 : Nat) : Int) := by rw [wrap_id (by omega) (by omega)]; omega
      have hlen : acc.length = i := by rw [ha, List.length_take]; omega
      have hn := ih (i + 1) (by omega) (acc ++ [W[i]]) (by rw [List.take_succ_eq_append_getElem hi', ha])
      refine Ev.step (f := _) (fun k => ?_) hn
      simp only [depotref00_CopyRequest.l0, wt_at hi', ew]
      rw [if_pos (by omega), if_pos (by omega), if_pos (by omega)]
  unfold depotref00_CopyRequest.f
  exact key W.length 0 (by omega) [] rfl
end Go.Proofs.YtmocooihkobdjaaDoor.Model
end
section
set_option linter.unusedVariables false
set_option linter.unusedSimpArgs false
namespace Go.Proofs.YtmocooihkobdjaaDoor.Model
open Go.RowKit Go.Proofs.YtmocooihkobdjaaDoor.G Go.Proofs.YtmocooihkobdjaaDoorW.PrintWords Go.Proofs.YtmocooihkobdjaaDoorW.PrintLast Go.Proofs.YtmocooihkobdjaaDoor.Ver
theorem samerels_self (l : List S46) (hl : l.length ≤ 140737488351232) : Ev (fun k => depotref00_SameRels.f k l l) true := by
  have key : ∀ (d i : Nat), i + d = l.length → Ev (fun k => depotref00_SameRels.l0 k l l (i : Int)) true := by
    intro d
    induction d with
    | zero =>
      intro i hi
      refine Ev.step (f := fun _ => some true) (fun k => ?_) (Ev.now _)
      simp only [depotref00_SameRels.l0]
      rw [if_neg (by omega)]
    | succ d ih =>
      intro i hi
      have ew : wrap64 ((i : Int) + 1) = ((i + 1 : Nat) : Int) := by rw [wrap_id (by omega) (by omega)]; omega
      refine Ev.step (f := fun k => depotref00_SameRels.l0 k l l ((i + 1 : Nat) : Int)) (fun k => ?_) (ih (i + 1) (by omega))
      simp only [depotref00_SameRels.l0, ew, if_pos (show (i : Int) < l.length by omega), if_pos (show (0 : Int) ≤ i by omega)]
      simp
  unfold depotref00_SameRels.f
  simp only [if_true]
  exact key l.length 0 (by omega)
theorem samelists_self (l : List (List S46)) (hl : l.length ≤ 140737488351232) (hin : ∀ m ∈ l, m.length ≤ 140737488351232) : Ev (fun k => depotref00_SameLists.f k l l) true := by
  have key : ∀ (d i : Nat), i + d = l.length → Ev (fun k => depotref00_SameLists.l0 k l l (i : Int)) true := by
    intro d
    induction d with
    | zero =>
      intro i hi
      refine Ev.step (f := fun _ => some true) (fun k => ?_) (Ev.now _)
      simp only [depotref00_SameLists.l0]
      rw [if_neg (by omega)]
    | succ d ih =>
      intro i hi
      have ew : wrap64 ((i : Int) + 1) = ((i + 1 : Nat) : Int) := by rw [wrap_id (by omega) (by omega)]; omega
      refine Ev.step (f := fun k => (depotref00_SameRels.f k (rd_L3 l (i : Int)) (rd_L3 l (i : Int))).bind fun t198 => (if t198 = true then (depotref00_SameLists.l0 k l l ((i + 1 : Nat) : Int)) else (some false))) (fun k => ?_) ?_
      · simp only [depotref00_SameLists.l0, ew, if_pos (show (i : Int) < l.length by omega), if_pos (show (0 : Int) ≤ i by omega)]
      · have hi' : i < l.length := by omega
        rw [rd_at hi']
        refine Ev.bind (samerels_self _ (hin _ (List.getElem_mem hi'))) ?_
        simp only [if_true]
        exact ih (i + 1) (by omega)
  unfold depotref00_SameLists.f
  simp only [if_true]
  exact key l.length 0 (by omega)
theorem samewishes_self (l : List S48) (hl : l.length ≤ 140737488351232) : Ev (fun k => depotref00_SameWishes.f k l l) true := by
  have key : ∀ (d i : Nat), i + d = l.length → Ev (fun k => depotref00_SameWishes.l0 k l l (i : Int)) true := by
    intro d
    induction d with
    | zero =>
      intro i hi
      refine Ev.step (f := fun _ => some true) (fun k => ?_) (Ev.now _)
      simp only [depotref00_SameWishes.l0]
      rw [if_neg (by omega)]
    | succ d ih =>
      intro i hi
      have ew : wrap64 ((i : Int) + 1) = ((i + 1 : Nat) : Int) := by rw [wrap_id (by omega) (by omega)]; omega
      refine Ev.step (f := fun k => depotref00_SameWishes.l0 k l l ((i + 1 : Nat) : Int)) (fun k => ?_) (ih (i + 1) (by omega))
      simp only [depotref00_SameWishes.l0, ew, if_pos (show (i : Int) < l.length by omega), if_pos (show (0 : Int) ≤ i by omega)]
      simp
  unfold depotref00_SameWishes.f
  simp only [if_true]
  exact key l.length 0 (by omega)
theorem samereq_self (L : List (List S46)) (F : List S46) (W : List S48) (hL : L.length ≤ 100000000) (hin : ∀ m ∈ L, m.length ≤ 100000000) (hF : F.length ≤ 100000000) (hW : W.length ≤ 100000000) : Ev (fun k => depotref00_SameRequest.f k L F W L F W) true := by
  unfold depotref00_SameRequest.f
  refine Ev.bind (samelists_self L (by omega) (fun m hm => by have := hin m hm; omega)) ?_
  simp only [if_true]
  refine Ev.bind (samerels_self F (by omega)) ?_
  simp only [if_true]
  exact Ev.bind (samewishes_self W (by omega)) (Ev.now _)
end Go.Proofs.YtmocooihkobdjaaDoor.Model
end
section
set_option linter.unusedVariables false
set_option linter.unusedSimpArgs false
namespace Go.Proofs.YtmocooihkobdjaaDoor.Model
open Go.RowKit Go.Proofs.YtmocooihkobdjaaDoor.G Go.Proofs.YtmocooihkobdjaaDoorW.PrintWords Go.Proofs.YtmocooihkobdjaaDoorW.PrintLast Go.Proofs.YtmocooihkobdjaaDoor.Ver
theorem req_len' {L : List (List S46)} {F : List S46} {W : List S48} (h : reqW L F W ≤ 8388608) : L.length ≤ 100000000 ∧ (∀ m ∈ L, m.length ≤ 100000000) ∧ F.length ≤ 100000000 ∧ W.length ≤ 100000000 := by
  obtain ⟨h1, h2, h3, h4, h5⟩ := req_parts h
  have hm : L.flatten.length ≤ 100000000 := by
    have a := flat_weigh L
    have b := row_length L.flatten
    omega
  exact ⟨by omega, fun m hm2 => by have := row_len hm2; omega, by omega, by omega⟩
theorem requestAgain_ev (s : ByteArray) (hs : s.size ≤ 1048576) : Ev (fun k => depotlaw24_RequestAgain.f k s) true := by
  have l1 : s.data.toList.length = s.size := by simp
  have h1 := Req_ev s (by omega)
  have w1 := reqM_w s.data.toList
  have o1 := reqM_ok s.data.toList
  have e1 : ¬ (reqM s.data.toList).2.2.2.1 = 0 → (reqM s.data.toList).1 = [] ∧ (reqM s.data.toList).2.1 = [] ∧ (reqM s.data.toList).2.2.1 = [] := lines_err _ _ _
  generalize reqM s.data.toList = R at h1 w1 o1 e1
  obtain ⟨L, F, W, er, p⟩ := R
  simp only at w1 o1 e1
  have h' : reqW L F W ≤ 8388608 := by omega
  unfold depotlaw24_RequestAgain.f
  refine Ev.bind h1 ?_
  by_cases c : er = 0
  · subst c
    have hw := reqwrite_ev L F W h'
    have hf := reqform_ev L F W h'
    have hc := copyreq_ev L F W h'
    obtain ⟨b1, b2, b3, b4⟩ := req_len' h'
    rw [o1] at hw hf
    simp only [if_true] at hw ⊢
    refine Ev.bind hc ?_
    refine Ev.bind hw ?_
    have hl := text_len h'
    have hr := Req_ev (ofL (reqText L F W)) (by rw [ofL_size]; omega)
    rw [toL_ofL, req_back o1] at hr
    refine Ev.bind hr ?_
    refine Ev.bind hc ?_
    refine Ev.bind hf ?_
    simp only [if_true]
    refine Ev.bind (samereq_self L F W b1 b2 b3 b4) ?_
    simp only [if_true]
    exact Ev.bind awake_ev (Ev.now _)
  · obtain ⟨rfl, rfl, rfl⟩ := e1 c
    simp only [if_neg c, List.length_nil, Int.natCast_zero, if_true]
    exact Ev.bind awake_ev (Ev.now _)
end Go.Proofs.YtmocooihkobdjaaDoor.Model
end
section
namespace Go.Proofs.YtmocooihkobdjaaDoor.requestAgain
open Go.ChangeShapes Go.WideShapes Go.ChangeAt Go.RowKit
open Go.ChangeMaps (open_string shut_string)
set_option linter.unusedVariables false
set_option linter.unusedSimpArgs false
theorem own : ownKnob Tryd.prog.godebug = none := by kernel_rfl
set_option maxRecDepth 100000 in
theorem contract (H : Type) (enc : TypeId × Value → H) (W : World) (base : Nat) (args : Array Value) (ds gs : List (DataW H)) (before : List MemPlace)
    (hval : ∀ (j : Nat) t v, Tryd.f9.params[j]? = some t → args[j]? = some v → Value.okWide Tryd.prog W .any base t v)
    (hW : DataW.Whole enc Tryd.prog Tryd.f9.params.toList Rows.requestAgainSpec.vars false W args.toList ds gs before) (hL : laidMetH Tryd.prog Rows.requestAgainUptoRow.laid W) (hSh : W.ShapedOpen Tryd.prog) (hc : Rows.uptoSmall H (ds ++ gs) = true) :
    Calls Tryd.prog 9 args W fun e W' => ∃ v, e = .returned v ∧ Rows.requestAgainSpec.post enc Tryd.prog Tryd.f9 false true false false W args v W' := by
  have hW' := hW
  obtain ⟨p, q, hA0, hV, rfl, hfz, hnd⟩ := hW
  have hA : DataW.TrodAll enc Tryd.prog W 0 (fun _ => true) true Tryd.f9.params.toList args.toList ds p := hA0
  rw [Tryd.params9] at hA hval
  obtain ⟨v0, vs0, d0, ds0, p0, q0, hargs, rfl, rfl, h0, r0⟩ := trodAll_cons hA
  obtain ⟨rfl, rfl, rfl⟩ := trodAll_nil r0
  obtain rfl : args = #[v0] := Array.ext' hargs
  obtain ⟨rfl, rfl⟩ := trodVars_none hV
  have z := of_decide_eq_true hc
  simp only [List.append_nil, List.cons_append, List.nil_append, Rows.uptoBulkAll] at z
  obtain ⟨a0, rfl, rfl, rfl, y0⟩ := open_string Tryd.underlying9 (hval 0 9 v0 rfl rfl) h0
  have w0 : a0.size ≤ 1048576 := by
    (try simp only [Rows.uptoBulk, Array.length_toList] at z)
    have : a0.data.size = a0.size := rfl
    omega
  clear hA0
  obtain ⟨k, hk⟩ := (Model.requestAgain_ev a0 w0).rounds
  refine (G.depotlaw24_RequestAgain.calls k a0 true W (GG_of hL hSh) hk rfl).mono fun e W' ⟨he, bel⟩ => ?_
  subst he
  exact ⟨_, rfl, _, _, _, [], _, [], hW', trodAll_mk1 (shut_bool Tryd.underlying4 _), (trodAll_cons_mk (shut_string Tryd.underlying9 y0) trodAll_mk0), rfl, bel.frame _, fun h => by cases h⟩
noncomputable def laidWorld (os : Os) : World := wholeWorld os
theorem laid_met (os : Os) : laidMet Tryd.prog Rows.requestAgainUptoRow.laid ((laidWorld os).forCall (fun _ _ => 0) ⟨#[], #[.string ByteArray.empty], []⟩).memory :=
  laidMet_of_run' 8 (by kernel_rfl) (by kernel_rfl)
theorem reads (os : Os) {H : Type} (enc : TypeId × Value → H) : ∃ places, DataW.whole enc Tryd.prog ((laidWorld os).forCall (fun _ _ => 0) ⟨#[], #[.string ByteArray.empty], []⟩).memory Tryd.f9.params.toList Rows.requestAgainSpec.vars false (#[.string ByteArray.empty] : Array Value).toList 8 = some ([.lit (.string [])], [], places) :=
  ⟨[], by kernel_rfl⟩
set_option maxRecDepth 100000 in
theorem lifted (os : Os) (started : os.Started) (H : Type) (enc : TypeId × Value → H) (F : Stop.Interp) :
    ReturnsInHanded {} Tryd.checked os 9 .any ((Rows.OpenSpec.upto Rows.requestAgainSpec).preRow enc Tryd.prog Tryd.f9 Rows.requestAgainUptoRow.domain false Rows.requestAgainUptoRow.laid) (((Rows.OpenSpec.upto Rows.requestAgainSpec).at F).post enc Tryd.prog Tryd.f9 false true false false) := by
  obtain ⟨places, hx⟩ := reads os enc
  refine returnsInHanded_of_row (C := Tryd.checked) (s := Rows.OpenSpec.upto Rows.requestAgainSpec) own started (by kernel_rfl) Tryd.func9
    (witness_row_at (enc := enc) (C := Tryd.checked) false (laidWorld os) #[.string ByteArray.empty] rfl (by kernel_rfl) (by kernel_rfl) (by kernel_rfl)
      (OpenSpec.preRow_of_cond 8 hx (by kernel_rfl) (fun k hk => by cases hk; kernel_rfl) (by kernel_rfl) (laid_met os))) ?_
  intro W base args ds gs before hval hW _ hc _ hL hSh _
  exact contract H enc W base args ds gs before hval hW hL hSh (hc _ rfl)
theorem said : Rows.RequestAgainUptoSaid :=
  OpenClaim.holds_of_cond 9 Tryd.f9 rfl rfl rfl rfl rfl rfl rfl ⟨rfl, rfl, rfl, rfl, rfl⟩ rfl rfl rfl rfl rfl (by kernel_rfl) Tryd.func9 (by kernel_rfl)
    (of_decide_eq_true (by kernel_rfl)) (by unfold Func.isWrapper; first | (rw [if_pos (by decide +kernel)]; kernel_rfl) | (rw [if_neg (by decide +kernel)]; exact ⟨rfl, rfl⟩))
    (fun os started H enc _ F => by rw [OpenClaim.pre_eq_preRow]; exact lifted os started H enc F)
theorem plain (f : FuncId) (fn : Func) (hf : Tryd.pinned.checked.prog.funcNamed "depot/depotlaw24.RequestAgain" = some f) (hfn : Tryd.pinned.checked.prog.funcs[f]? = some fn) :
    true = Tryd.pinned.checked.prog.looks [] ∧ ∀ (j : Nat) t, fn.params[j]? = some t → Tryd.pinned.checked.prog.wantsStandIn t = false := by
  obtain rfl : f = 9 := Option.some.inj ((show Tryd.prog.funcNamed "depot/depotlaw24.RequestAgain" = some 9 by kernel_rfl).symm.trans hf) |>.symm
  obtain rfl : fn = Tryd.f9 := (Option.some.inj (Tryd.func9.symm.trans hfn)).symm
  refine ⟨by kernel_rfl, fun j t ht => ?_⟩
  rw [Tryd.params9] at ht
  have h9 : Tryd.prog.wantsStandIn 9 = false := by kernel_rfl
  have hm := Array.mem_of_getElem? ht
  have : t = 9 := by simpa using hm
  rw [this]; exact h9
theorem card : Rows.RequestAgainUptoCardSaid :=
  Claim7.holds_tied_plain_at .later [] _ _ _ _ said (fun _ h => by cases h) (by kernel_rfl) (fun _ h => by cases h) requestAgainUpto_row_tie rfl ⟨rfl, rfl⟩ (by kernel_rfl) rfl plain (by kernel_rfl)
#print axioms card
end Go.Proofs.YtmocooihkobdjaaDoor.requestAgain
namespace Go.Proofs.YtmocooihkobdjaaDoor
theorem requestAgain_holds : Rows.RequestAgainUptoCardSaid := requestAgain.card
end Go.Proofs.YtmocooihkobdjaaDoor
end
