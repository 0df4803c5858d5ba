/-
  Plain Lean: request.Formed, and the reference's (depotref24).
-/
import Derived.Test.YtmocooihkobdjaaDoorByReqWeigh
import Derived.Test.YtmocooihkobdjaaDoorByFnForm
import Derived.Test.YtmocooihkobdjaaDoorByFnRefForm
set_option linter.unusedVariables false
set_option linter.unusedSimpArgs false
namespace Go.Proofs.YtmocooihkobdjaaDoor.Model
open Go.RowKit Go.Proofs.YtmocooihkobdjaaDoor.B Go.Proofs.YtmocooihkobdjaaDoorW.PrintWords Go.Proofs.YtmocooihkobdjaaDoorW.PrintLast Go.Proofs.YtmocooihkobdjaaDoor.Ver

theorem contains_ev : ∀ (l : List S46), (∀ x ∈ l, relW x ≤ 140737488351232) → Ev (fun k => api_Rel_24.f k l) (!l.all formM) := by
  intro l
  unfold api_Rel_24.f
  induction l with
  | nil => intro _; exact Ev.now _
  | cons x l ih =>
    intro h
    have hx := form_ev x (h x (List.mem_cons_self ..))
    have hl := ih (fun y hy => h y (List.mem_cons_of_mem _ hy))
    unfold api_Rel_24.l0
    refine Ev.bind hx ?_
    rw [List.all_cons]
    cases formM x with
    | true => simp only [if_true, Bool.true_and]; exact hl
    | false => simp only [Bool.false_eq_true, if_false, Bool.false_and, Bool.not_false]; exact Ev.now _
theorem reqform_l1 (L : List (List S46)) (hL : (L.map rowW).sum ≤ 1048576) : ∀ (d i : Nat), i + d = L.length → ∀ l : List S46, l.length + (L.drop i).flatten.length ≤ 4000000 → (∀ x ∈ l, relW x ≤ 140737488351232) →
    Ev (fun k => request_Formed.l1 k l L (L.length : Int) (i : Int)) (full (L.drop i) && (l ++ (L.drop i).flatten).all formM) := by
  have hLl := rows_length L
  have hfw := flat_weigh L
  intro d
  induction d with
  | zero =>
    intro i hi l hl hx
    obtain rfl : i = L.length := by omega
    rw [List.drop_length, List.flatten_nil, List.append_nil]
    refine Ev.step (f := fun k => (api_Rel_24.f k l).bind fun t => some (!t)) (fun k => ?_) (Ev.bind (contains_ev l hx) ?_)
    · simp only [request_Formed.l1]
      rw [if_neg (by omega)]
    · simp only [Bool.not_not, full, List.all_nil, Bool.true_and]
      exact Ev.now _
  | succ d ih =>
    intro i hi l hl hx
    have hi' : i < L.length := by omega
    have ew : wrap64 ((i : Int) + 1) = ((i + 1 : Nat) : Int) := by rw [wrap_id (by omega) (by omega)]; omega
    rw [drop_at hi', List.flatten_cons] at hl ⊢
    rw [List.length_append] at hl
    by_cases h0 : L[i] = []
    · refine Ev.step (f := fun _ => some false) (fun k => ?_) ?_
      · simp only [request_Formed.l1, rd_at hi', h0, List.length_nil]
        rw [if_pos (by omega), if_pos (by omega), if_pos (by omega), if_pos (by rfl)]
      · rw [full, List.all_cons, h0]
        exact Ev.now _
    · have hz : ¬ ((L[i].length : Nat) : Int) = 0 := by
        have : L[i].length ≠ 0 := fun q => h0 (List.eq_nil_of_length_eq_zero q)
        omega
      have hrow := rowW_mem (List.getElem_mem hi')
      have hrw : rowW L[i] = (L[i].map relW).sum + 1 := rfl
      have hn := ih (i + 1) (by omega) (l ++ L[i]) (by rw [List.length_append]; omega) (fun x hxm => by
        rcases List.mem_append.1 hxm with q | q
        · exact hx x q
        · have := relW_mem q; omega)
      have e : (full (L[i] :: L.drop (i + 1)) && (l ++ (L[i] ++ (L.drop (i + 1)).flatten)).all formM) = (full (L.drop (i + 1)) && ((l ++ L[i]) ++ (L.drop (i + 1)).flatten).all formM) := by
        rw [full, List.all_cons, List.append_assoc]
        have : (!L[i].isEmpty) = true := by simpa using h0
        rw [this, Bool.true_and]; rfl
      rw [e]
      refine Ev.step (f := _) (fun k => ?_) hn
      simp only [request_Formed.l1, rd_at hi', ew]
      rw [if_pos (by omega), if_pos (by omega), if_pos (by omega), if_neg hz, if_pos (by omega)]
theorem reqform_ev (L : List (List S46)) (F : List S46) (W : List S48) (h : reqW L F W ≤ 1048576) : Ev (fun k => request_Formed.f k L F W) (reqOk L F W) := by
  obtain ⟨h1, h2, h3, h4, h5⟩ := req_parts h
  have hL1 := fun l a b => reqform_l1 L (by omega) L.length 0 (by omega) l a b
  have hFx : ∀ x ∈ F, relW x ≤ 140737488351232 := fun x q => by have := relW_mem q; omega
  have hWx : ∀ x ∈ wrels W, relW x ≤ 140737488351232 := fun x q => by have := relW_mem q; omega
  have hB : L.flatten.length + F.length + W.length ≤ 1048576 := by omega
  have hF : F.length ≤ 1048576 := by omega
  have hW : W.length ≤ 1048576 := by omega
  clear h h1 h2 h3 h4 h5
  have key : ∀ (d i : Nat), i + d = W.length → ∀ l : List S46, l = F ++ wrels (W.take i) → Ev (fun k => request_Formed.l0 k l W (W.length : Int) (i : Int) L F W) (reqOk L F W) := by
    intro d
    induction d with
    | zero =>
      intro i hi l hl
      obtain rfl : i = W.length := by omega
      rw [List.take_length] at hl
      have hlen : l.length = F.length + W.length := by rw [hl, List.length_append]; unfold wrels; rw [List.length_map]
      have hn := hL1 l (by rw [List.drop_zero]; omega) (fun x hx => by
        rw [hl] at hx
        rcases List.mem_append.1 hx with q | q
        · exact hFx x q
        · exact hWx x q)
      rw [List.drop_zero, hl] at hn
      have e : (full L && ((F ++ wrels W) ++ L.flatten).all formM) = reqOk L F W := by
        unfold reqOk
        rw [okL_parts, List.all_append, List.all_append, fair_flat]
        cases full L <;> cases fair L <;> cases F.all formM <;> cases (wrels W).all formM <;> rfl
      rw [e] at hn
      rw [hl]
      refine Ev.step (f := _) (fun k => ?_) hn
      simp only [request_Formed.l0]
      rw [if_neg (by omega)]
      rfl
    | succ d ih =>
      intro i hi l hl
      have hi' : i < W.length := by omega
      have ew : wrap64 ((i : Int) + 1) = ((i + 1 : Nat) : Int) := by rw [wrap_id (by omega) (by omega)]; omega
      have hlen : l.length = F.length + i := by rw [hl, List.length_append]; unfold wrels; rw [List.length_map, List.length_take]; omega
      have hn := ih (i + 1) (by omega) (l ++ [W[i].f1]) (by rw [List.take_succ_eq_append_getElem hi', hl]; unfold wrels; rw [List.map_append, List.append_assoc]; rfl)
      refine Ev.step (f := _) (fun k => ?_) hn
      simp only [request_Formed.l0, wt_at hi', ew]
      rw [if_pos (by omega), if_pos (by omega), if_pos (by omega), if_pos (by omega)]
  unfold request_Formed.f
  have hc : api_Rel_23.f F = some F := by
    unfold api_Rel_23.f
    simp only [Option.bind_some, List.length_nil, List.nil_append]
    rw [if_pos (by omega)]
  rw [hc]
  exact key W.length 0 (by omega) F (by simp [wrels])
theorem rrelations_ev (l : List S46) (hl : (l.map relW).sum ≤ 1048576) : Ev (fun k => depotref24_relations.f k l) (l.all formM) := by
  have hlen := row_length l
  have key : ∀ (d i : Nat), i + d = l.length → Ev (fun k => depotref24_relations.l0 k l (i : Int)) ((l.drop i).all formM) := by
    intro d
    induction d with
    | zero =>
      intro i hi
      rw [List.drop_of_length_le (by omega)]
      refine Ev.step (f := fun _ => some true) (fun k => ?_) (Ev.now _)
      simp only [depotref24_relations.l0]
      rw [if_neg (by omega)]
    | succ d ih =>
      intro i hi
      have hi' : i < l.length := by omega
      have ew : wrap64 ((i : Int) + 1) = ((i + 1 : Nat) : Int) := by rw [wrap_id (by omega) (by omega)]; omega
      have hx := relW_mem (List.getElem_mem hi')
      have hf := rform_ev l[i] (by omega)
      rw [drop_at hi', List.all_cons]
      refine Ev.step (f := fun k => (depotref22_Formed.f k l[i].f0 l[i].f1 l[i].f2).bind fun t => if t = true then depotref24_relations.l0 k l ((i + 1 : Nat) : Int) else some false) (fun k => ?_) (Ev.bind hf ?_)
      · simp only [depotref24_relations.l0, rt_at hi', ew]
        rw [if_pos (by omega), if_pos (by omega)]
      · cases formM l[i] with
        | true => simp only [if_true, Bool.true_and]; exact ih (i + 1) (by omega)
        | false => simp only [Bool.false_eq_true, if_false, Bool.false_and]; exact Ev.now _
  unfold depotref24_relations.f
  exact key l.length 0 (by omega)
theorem rreqform_ev (L : List (List S46)) (F : List S46) (W : List S48) (h : reqW L F W ≤ 1048576) : Ev (fun k => depotref24_Formed.f k L F W) (reqOk L F W) := by
  obtain ⟨h1, h2, h3, h4, h5⟩ := req_parts h
  have hRF := rrelations_ev F (by omega)
  have hWx : ∀ x ∈ wrels W, relW x ≤ 140737488351232 := fun x q => by have := relW_mem q; omega
  have hLx : ∀ m ∈ L, (m.map relW).sum ≤ 1048576 := fun m q => by
    have h6 := rowW_mem q
    have h7 : rowW m = (m.map relW).sum + 1 := rfl
    omega
  have hW : W.length ≤ 1048576 := by omega
  have hL : L.length ≤ 1048576 := by omega
  clear h h1 h2 h3 h4 h5
  have wish : ∀ (d i : Nat), i + d = W.length → Ev (fun k => depotref24_Formed.l1 k (i : Int) L F W) ((wrels (W.drop i)).all formM && F.all formM) := by
    intro d
    induction d with
    | zero =>
      intro i hi
      rw [List.drop_of_length_le (by omega)]
      refine Ev.step (f := fun k => (depotref24_relations.f k F).bind fun t => some t) (fun k => ?_) (Ev.bind hRF ?_)
      · simp only [depotref24_Formed.l1]
        rw [if_neg (by omega)]
      · simp only [wrels, List.map_nil, List.all_nil, Bool.true_and]
        exact Ev.now _
    | succ d ih =>
      intro i hi
      have hi' : i < W.length := by omega
      have ew : wrap64 ((i : Int) + 1) = ((i + 1 : Nat) : Int) := by rw [wrap_id (by omega) (by omega)]; omega
      have hf := rform_ev W[i].f1 (hWx _ (wrels_at hi'))
      rw [drop_at hi']
      simp only [wrels, List.map_cons, List.all_cons]
      refine Ev.step (f := fun k => (depotref22_Formed.f k W[i].f1.f0 W[i].f1.f1 W[i].f1.f2).bind fun t => if t = true then depotref24_Formed.l1 k ((i + 1 : Nat) : Int) L F W else some false) (fun k => ?_) (Ev.bind hf ?_)
      · simp only [depotref24_Formed.l1, wt_at hi', ew]
        rw [if_pos (by omega), if_pos (by omega)]
      · cases formM W[i].f1 with
        | true => simp only [if_true, Bool.true_and]; exact ih (i + 1) (by omega)
        | false => simp only [Bool.false_eq_true, if_false, Bool.false_and]; exact Ev.now _
  have ins : ∀ (d i : Nat), i + d = L.length → Ev (fun k => depotref24_Formed.l0 k (i : Int) L F W) (okL (L.drop i) && ((wrels W).all formM && F.all formM)) := by
    intro d
    induction d with
    | zero =>
      intro i hi
      rw [List.drop_of_length_le (by omega)]
      have hw := wish W.length 0 (by omega)
      rw [List.drop_zero] at hw
      refine Ev.step (f := _) (fun k => ?_) (by simpa [okL] using hw)
      simp only [depotref24_Formed.l0]
      rw [if_neg (by omega)]
    | succ d ih =>
      intro i hi
      have hi' : i < L.length := by omega
      have ew : wrap64 ((i : Int) + 1) = ((i + 1 : Nat) : Int) := by rw [wrap_id (by omega) (by omega)]; omega
      have hf := rrelations_ev L[i] (hLx _ (List.getElem_mem hi'))
      rw [drop_at hi', okL, List.all_cons]
      by_cases h0 : L[i] = []
      · refine Ev.step (f := fun _ => some false) (fun k => ?_) ?_
        · simp only [depotref24_Formed.l0, rd_at hi', h0, List.length_nil]
          rw [if_pos (by omega), if_pos (by omega), if_pos (by rfl)]
        · rw [h0]
          exact Ev.now _
      · have hz : ¬ ((L[i].length : Nat) : Int) = 0 := by
          have : L[i].length ≠ 0 := fun q => h0 (List.eq_nil_of_length_eq_zero q)
          omega
        have hne : (!L[i].isEmpty) = true := by simpa using h0
        rw [hne, Bool.true_and]
        refine Ev.step (f := fun k => (depotref24_relations.f k L[i]).bind fun t => if t = true then depotref24_Formed.l0 k ((i + 1 : Nat) : Int) L F W else some false) (fun k => ?_) (Ev.bind hf ?_)
        · simp only [depotref24_Formed.l0, rd_at hi', ew]
          rw [if_pos (by omega), if_pos (by omega), if_neg hz]
        · cases L[i].all formM with
          | true => simp only [if_true, Bool.true_and]; exact ih (i + 1) (by omega)
          | false => simp only [Bool.false_eq_true, if_false, Bool.false_and]; exact Ev.now _
  unfold depotref24_Formed.f reqOk
  have := ins L.length 0 (by omega)
  rw [List.drop_zero] at this
  exact this
end Go.Proofs.YtmocooihkobdjaaDoor.Model
