/- Plain Lean: relation.ReadList by the reader's function on bytes. -/
import Derived.Test.YtphabealejpfnaaDoorZyModelProps
set_option linter.unusedVariables false
set_option linter.unusedSimpArgs false
namespace Go.Proofs.YtphabealejpfnaaDoor.Model
open Go.RowKit Go.Proofs.YtphabealejpfnaaDoor.Z Go.Proofs.YtphabealejpfnaaDoorW.PrintWords Go.Proofs.YtphabealejpfnaaDoorW.PrintLast Go.Proofs.YtphabealejpfnaaDoor.Ver

theorem readlist_l0 (L : List (List S23)) (er p : Int) (hL : L.length ≤ 140737488351232) : ∀ (d i : Nat), i + d = L.length → ∀ acc : List S23, acc.length + (L.drop i).flatten.length < 3518437208883 → Ev (fun k => relation_ReadList.l0 k er p acc L (L.length : Int) (i : Int)) (acc ++ (L.drop i).flatten, er, p) := by
  intro d
  induction d with
  | zero =>
    intro i hi acc ha
    rw [List.drop_of_length_le (by omega), List.flatten_nil, List.append_nil]
    refine Ev.step (f := fun _ => some (acc, er, p)) (fun k => ?_) (Ev.now _)
    simp only [relation_ReadList.l0]
    rw [if_neg (by omega)]
  | succ d ih =>
    intro i hi acc ha
    have hi' : i < L.length := by omega
    have ew : wrap64 ((i : Int) + 1) = ((i + 1 : Nat) : Int) := by rw [wrap_id (by omega) (by omega)]; omega
    rw [drop_at hi', List.flatten_cons, List.length_append] at ha
    have hn := ih (i + 1) (by omega) (acc ++ L[i]) (by rw [List.length_append]; omega)
    rw [drop_at hi', List.flatten_cons, ← List.append_assoc]
    refine Ev.step (f := _) (fun k => ?_) hn
    simp only [relation_ReadList.l0, ew, rd_at hi', if_pos (show (i : Int) < L.length by omega), if_pos (show (0 : Int) ≤ i by omega), if_pos (show acc.length + L[i].length < 3518437208883 by omega)]
theorem ReadList_ev (s : ByteArray) (hb : s.size ≤ 3000000000000) : Ev (fun k => relation_ReadList.f k s) ((readM false s.data.toList).1.flatten, (placeM s (readM false s.data.toList)).2) := by
  unfold relation_ReadList.f
  refine Ev.bind (read_ev s hb false) ?_
  obtain ⟨b1, b2⟩ := readM_bd false s.data.toList
  have hz : s.data.toList.length = s.size := by simp
  have := readlist_l0 (readM false s.data.toList).1 (placeM s (readM false s.data.toList)).2.1 (placeM s (readM false s.data.toList)).2.2 (by omega) (readM false s.data.toList).1.length 0 (by omega) [] (by simp only [List.length_nil, List.drop_zero]; omega)
  simp only [List.drop_zero, List.nil_append] at this
  exact this
end Go.Proofs.YtphabealejpfnaaDoor.Model
