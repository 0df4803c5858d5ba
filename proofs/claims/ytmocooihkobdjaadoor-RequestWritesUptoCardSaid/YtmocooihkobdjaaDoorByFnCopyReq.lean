/-
  Plain Lean: copies of relations, lists and requests (depotref00) are what they are made of.
-/
import Derived.Test.YtmocooihkobdjaaDoorByReqWeigh
set_option linter.unusedVariables false
set_option linter.unusedSimpArgs false
namespace Go.Proofs.YtmocooihkobdjaaDoor.Model
open Go.RowKit Go.Proofs.YtmocooihkobdjaaDoor.B Go.Proofs.YtmocooihkobdjaaDoorW.PrintWords Go.Proofs.YtmocooihkobdjaaDoorW.PrintLast Go.Proofs.YtmocooihkobdjaaDoor.Ver

theorem copyrels_ev (l : List S46) (h : l.length ≤ 4000000) : Ev (fun k => depotref00_CopyRels.f k l) l := by
  have key : ∀ (d i : Nat), i + d = l.length → ∀ acc : List S46, acc.length = i → Ev (fun k => depotref00_CopyRels.l0 k l acc (i : Int)) (acc ++ l.drop i) := by
    intro d
    induction d with
    | zero =>
      intro i hi acc ha
      rw [List.drop_of_length_le (by omega), List.append_nil]
      refine Ev.step (f := fun _ => some acc) (fun k => ?_) (Ev.now _)
      simp only [depotref00_CopyRels.l0]
      rw [if_neg (by omega)]
    | succ d ih =>
      intro i hi acc ha
      have hi' : i < l.length := by omega
      have ew : wrap64 ((i : Int) + 1) = ((i + 1 : Nat) : Int) := by rw [wrap_id (by omega) (by omega)]; omega
      have hn := ih (i + 1) (by omega) (acc ++ [l[i]]) (by simp [ha])
      rw [drop_at hi', show acc ++ l[i] :: l.drop (i + 1) = (acc ++ [l[i]]) ++ l.drop (i + 1) by simp]
      refine Ev.step (f := _) (fun k => ?_) hn
      simp only [depotref00_CopyRels.l0, rt_at hi', ew]
      rw [if_pos (by omega), if_pos (by omega), if_pos (by omega)]
  have := key l.length 0 (by omega) [] rfl
  simpa [depotref00_CopyRels.f] using this
theorem copylists_ev (L : List (List S46)) (h : L.length ≤ 4000000) (hm : ∀ m ∈ L, m.length ≤ 4000000) : Ev (fun k => depotref00_CopyLists.f k L) L := by
  have key : ∀ (d i : Nat), i + d = L.length → ∀ acc : List (List S46), acc.length = i → Ev (fun k => depotref00_CopyLists.l0 k L acc (i : Int)) (acc ++ L.drop i) := by
    intro d
    induction d with
    | zero =>
      intro i hi acc ha
      rw [List.drop_of_length_le (by omega), List.append_nil]
      refine Ev.step (f := fun _ => some acc) (fun k => ?_) (Ev.now _)
      simp only [depotref00_CopyLists.l0]
      rw [if_neg (by omega)]
    | succ d ih =>
      intro i hi acc ha
      have hi' : i < L.length := by omega
      have ew : wrap64 ((i : Int) + 1) = ((i + 1 : Nat) : Int) := by rw [wrap_id (by omega) (by omega)]; omega
      have hn := ih (i + 1) (by omega) (acc ++ [L[i]]) (by simp [ha])
      rw [drop_at hi', show acc ++ L[i] :: L.drop (i + 1) = (acc ++ [L[i]]) ++ L.drop (i + 1) by simp]
      refine Ev.step (f := fun k => (depotref00_CopyRels.f k L[i]).bind fun t => if acc.length < 5864062014805 then depotref00_CopyLists.l0 k L (acc ++ [t]) ((i + 1 : Nat) : Int) else none) (fun k => ?_) (Ev.bind (copyrels_ev L[i] (hm _ (List.getElem_mem hi'))) ?_)
      · simp only [depotref00_CopyLists.l0, rd_at hi', ew]
        rw [if_pos (by omega), if_pos (by omega)]
      · simp only [if_pos (show acc.length < 5864062014805 by omega)]
        exact hn
  have := key L.length 0 (by omega) [] rfl
  simpa [depotref00_CopyLists.f] using this
theorem copyreq_ev (L : List (List S46)) (F : List S46) (W : List S48) (h : reqW L F W ≤ 1048576) : Ev (fun k => depotref00_CopyRequest.f k L F W) (L, F, W) := by
  obtain ⟨h1, h2, h3, h4, h5⟩ := req_parts h
  have hC := copylists_ev L (by omega) (fun m hm => by have := row_len hm; omega)
  have hR := copyrels_ev F (by omega)
  have hW : W.length ≤ 4000000 := by omega
  clear h h1 h2 h3 h4 h5
  have key : ∀ (d i : Nat), i + d = W.length → ∀ acc : List S48, acc = W.take i → Ev (fun k => depotref00_CopyRequest.l0 k acc (i : Int) L F W) (L, F, W) := by
    intro d
    induction d with
    | zero =>
      intro i hi acc ha
      obtain rfl : i = W.length := by omega
      rw [List.take_length] at ha
      subst ha
      refine Ev.step (f := fun k => (depotref00_CopyLists.f k L).bind fun t => (depotref00_CopyRels.f k F).bind fun u => some (t, u, acc)) (fun k => ?_) (Ev.bind hC (Ev.bind hR (Ev.now _)))
      simp only [depotref00_CopyRequest.l0]
      rw [if_neg (by omega)]
    | succ d ih =>
      intro i hi acc ha
      have hi' : i < W.length := by omega
      have ew : wrap64 ((i : Int) + 1) = ((i + 1 : Nat) : Int) := by rw [wrap_id (by omega) (by omega)]; omega
      have hlen : acc.length = i := by rw [ha, List.length_take]; omega
      have hn := ih (i + 1) (by omega) (acc ++ [W[i]]) (by rw [List.take_succ_eq_append_getElem hi', ha])
      refine Ev.step (f := _) (fun k => ?_) hn
      simp only [depotref00_CopyRequest.l0, wt_at hi', ew]
      rw [if_pos (by omega), if_pos (by omega), if_pos (by omega)]
  unfold depotref00_CopyRequest.f
  exact key W.length 0 (by omega) [] rfl
end Go.Proofs.YtmocooihkobdjaaDoor.Model
