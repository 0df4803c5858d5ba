/-
  RelationLists (P22.5) as plain Lean, for every text of at most 2^20 bytes.
-/
import Derived.Test.YtphabealejpfnaaDoorLyFnSame
import Derived.Test.YtphabealejpfnaaDoorLyFnFlat
import Derived.Test.YtphabealejpfnaaDoorLyFnRead
import Derived.Test.YtphabealejpfnaaDoorLyFnReadList
import Derived.KernelRfl
set_option linter.unusedVariables false
set_option linter.unusedSimpArgs false
namespace Go.Proofs.YtphabealejpfnaaDoor.Model
open Go.RowKit Go.Proofs.YtphabealejpfnaaDoor.L Go.Proofs.YtphabealejpfnaaDoorW.PrintWords Go.Proofs.YtphabealejpfnaaDoorW.PrintLast Go.Proofs.YtphabealejpfnaaDoor.Ver

/-- With bars and without: the same, all lists of one relation; or without them the reader stands at a bar. -/
theorem both_lists : ∀ (d : Nat) (x8 : List (List S23)) (l : B), l.length < d →
    (listsM false d x8 [] l = listsM true d x8 [] l ∧ ((listsM true d x8 [] l).2.1 = 0 → ∃ rest, (listsM true d x8 [] l).1 = x8 ++ rest ∧ ∀ m ∈ rest, m.length = 1)) ∨
    (∃ r, listsM false d x8 [] l = ([], 220, 124 :: r) ∧ (listsM true d x8 [] l).2.2.length ≤ r.length ∧
      ((listsM true d x8 [] l).2.1 = 0 → ∃ rest, (listsM true d x8 [] l).1 = x8 ++ rest ∧ ∃ m ∈ rest, ¬ m.length = 1)) := by
  intro d
  induction d with
  | zero => intro x8 l h; omega
  | succ d ih =>
    intro x8 l hd
    rw [listsM, listsM]
    cases hR : relM l with
    | mk q r =>
    cases q with
    | inl e =>
      left
      refine ⟨rfl, fun h => ?_⟩
      have := (relM_inl hR).1
      simp only at h
      omega
    | inr x =>
      obtain ⟨f1, f2, f3, f4⟩ := relM_inr hR
      cases r with
      | nil =>
        left
        exact ⟨rfl, fun _ => ⟨[[x]], by simp, by simp⟩⟩
      | cons c r =>
        have hg := dg_le r
        simp only [List.length_cons] at f3
        simp only [Bool.false_eq_true, and_false, and_true, if_false, List.nil_append]
        by_cases hc : c = 124
        · right
          subst hc
          refine ⟨r, ?_, ?_, ?_⟩
          · rw [if_neg (by decide)]
          · simp only [if_true]
            have := (listsM_suf true d x8 [x] (dg r)).length_le
            omega
          · simp only [if_true]
            intro h0
            obtain ⟨a, t, rest, b1, b2, _⟩ := listsM_ok true d x8 [x] (dg r) (by omega) h0
            refine ⟨([x] ++ t) :: rest, b1, [x] ++ t, List.mem_cons_self .., ?_⟩
            have : 0 < t.length := List.length_pos_iff.2 b2
            simp only [List.length_append, List.length_cons, List.length_nil]
            omega
        · simp only [if_neg hc]
          by_cases h44 : c = 44
          · simp only [if_pos h44]
            rcases ih (x8 ++ [[x]]) (dg r) (by omega) with ⟨a1, a2⟩ | ⟨r', a1, a2, a3⟩
            · left
              refine ⟨a1, fun h => ?_⟩
              obtain ⟨rest, b1, b2⟩ := a2 h
              refine ⟨[x] :: rest, by rw [b1]; simp, ?_⟩
              intro m hm
              rcases List.mem_cons.1 hm with q | q
              · rw [q]; rfl
              · exact b2 m q
            · right
              refine ⟨r', a1, a2, fun h => ?_⟩
              obtain ⟨rest, b1, m, b2, b3⟩ := a3 h
              exact ⟨[x] :: rest, by rw [b1]; simp, m, List.mem_cons_of_mem _ b2, b3⟩
          · simp only [if_neg h44]
            left
            exact ⟨by simp, fun h => by simp at h⟩
theorem both_read (l : B) :
    (readM false l = readM true l ∧ ((readM true l).2.1 = 0 → ∀ m ∈ (readM true l).1, m.length = 1)) ∨
    (∃ r, readM false l = ([], 220, 124 :: r) ∧ (readM true l).2.2.length ≤ r.length ∧ ((readM true l).2.1 = 0 → ∃ m ∈ (readM true l).1, ¬ m.length = 1)) := by
  unfold readM
  by_cases h : dg l = []
  · simp only [if_pos h]
    left
    exact ⟨trivial, fun _ => by simp⟩
  · simp only [if_neg h]
    rcases both_lists ((dg l).length + 1) [] (dg l) (Nat.lt_succ_self _) with ⟨a1, a2⟩ | ⟨r, a1, a2, a3⟩
    · left
      refine ⟨a1, fun h => ?_⟩
      obtain ⟨rest, b1, b2⟩ := a2 h
      rw [b1]
      simpa using b2
    · right
      refine ⟨r, a1, a2, fun h => ?_⟩
      obtain ⟨rest, b1, m, b2, b3⟩ := a3 h
      exact ⟨m, by rw [b1]; simpa using b2, b3⟩
theorem one_aa : Ev (fun k => relation_ReadList.f k ⟨#[97, 97]⟩) ([⟨⟨#[97, 97]⟩, 0, ⟨#[]⟩⟩], 0, 0) :=
  Ev.of (fun k => relation_ReadList.mono _ k) (k := 60) (by kernel_rfl)
theorem singles (s : ByteArray) (L : List (List S23)) (K : List S23) (d p : Int) (hL : L.length ≤ 140737488351232) : ∀ (n i : Nat), i + n = L.length → ∀ (b : Bool) (v : Bool),
    Ev (fun k => depotlaw22_RelationLists.l0 k s L K d p (b && (L.drop i).all (fun m => m.length == 1)) (L.length : Int)) v → Ev (fun k => depotlaw22_RelationLists.l0 k s L K d p b (i : Int)) v := by
  intro n
  induction n with
  | zero =>
    intro i hi b v h
    rw [List.drop_of_length_le (by omega)] at h
    obtain rfl : i = L.length := by omega
    simpa using h
  | succ n ih =>
    intro i hi b v h
    have hi' : i < L.length := by omega
    have ew : wrap64 ((i : Int) + 1) = ((i + 1 : Nat) : Int) := by rw [wrap_id (by omega) (by omega)]; omega
    rw [drop_at hi', List.all_cons] at h
    have e1 : (((L[i].length : Nat) : Int) == 1) = (L[i].length == 1) := by
      rw [Bool.eq_iff_iff, beq_iff_eq, beq_iff_eq]
      omega
    cases b with
    | true =>
      refine Ev.step (f := _) (fun k => ?_) (ih (i + 1) (by omega) (L[i].length == 1) v (by simpa using h))
      simp only [depotlaw22_RelationLists.l0, ew, rd_at hi', e1, if_pos (show (i : Int) < L.length by omega), if_pos (show (0 : Int) ≤ i by omega), if_true]
    | false =>
      refine Ev.step (f := _) (fun k => ?_) (ih (i + 1) (by omega) false v (by simpa using h))
      simp only [depotlaw22_RelationLists.l0, ew, if_pos (show (i : Int) < L.length by omega), Bool.false_eq_true, if_false]
theorem lists_end (s : ByteArray) (L : List (List S23)) (K : List S23) (d p : Int) (b : Bool) (v : Bool) (h : Ev (fun k => depotlaw22_RelationLists.j1 k s L K d p b false) v) :
    Ev (fun k => depotlaw22_RelationLists.l0 k s L K d p b (L.length : Int)) v := by
  refine Ev.step (f := fun k => (relation_ReadList.f k ⟨#[97, 97]⟩).bind fun bt => if bt.2.1 = 0 then depotlaw22_RelationLists.j1 k s L K d p b ((bt.1.length : Int) != 1) else depotlaw22_RelationLists.j1 k s L K d p b true) (fun k => ?_) ?_
  · simp only [depotlaw22_RelationLists.l0, if_neg (show ¬ ((L.length : Nat) : Int) < (L.length : Nat) by omega)]
  · refine Ev.bind one_aa ?_
    simp only [if_true]
    exact h
theorem lists_law (s : ByteArray) (hb : s.size ≤ 1048576) : Ev (fun k => depotlaw22_RelationLists.f k s) true := by
  have hz : s.data.toList.length = s.size := by simp
  have hA := Read_ev s hb
  have hF := ReadList_ev s hb
  obtain ⟨b1, b2⟩ := readM_bd true s.data.toList
  have hs2 := readM_suf false s.data.toList
  have hC := both_read s.data.toList
  have hok := readM_ok true s.data.toList
  unfold depotlaw22_RelationLists.f
  refine Ev.bind hA ?_
  refine Ev.bind hF ?_
  by_cases h0 : (readM true s.data.toList).2.1 = 0
  · simp only [placeM, if_pos h0]
    refine singles s _ _ _ _ (by omega) (readM true s.data.toList).1.length 0 (by omega) true true ?_
    rw [List.drop_zero, Bool.true_and]
    rcases hC with ⟨a1, a2⟩ | ⟨r, a1, a2, a3⟩
    · have hall : (readM true s.data.toList).1.all (fun m => m.length == 1) = true := by
        rw [List.all_eq_true]
        intro m hm
        exact beq_iff_eq.2 (a2 h0 m hm)
      rw [hall, a1]
      refine lists_end _ _ _ _ _ _ _ ?_
      refine Ev.step (f := fun k => (depotlaw22_flat.f k (readM true s.data.toList).1).bind fun t => (depotlaw22_same.f k (readM true s.data.toList).1.flatten t).bind fun t => some t) (fun k => ?_) ?_
      · simp only [depotlaw22_RelationLists.j1, Bool.false_eq_true, if_false, if_pos h0, if_true]
      refine Ev.bind (flat_law _ (by omega) (by omega)) ?_
      exact Ev.bind (same_self _ (by omega)) (Ev.now _)
    · obtain ⟨m, hm1, hm2⟩ := a3 h0
      have hall : (readM true s.data.toList).1.all (fun m => m.length == 1) = false := by
        rw [List.all_eq_false]
        exact ⟨m, hm1, by simpa using hm2⟩
      rw [a1] at hs2
      obtain ⟨c1, c2⟩ := at_suf hs2
      simp only at c1 c2
      obtain ⟨e1, e2, e3⟩ := at_cons (by omega) c1
      rw [hall, a1]
      refine lists_end _ _ _ _ _ _ _ ?_
      refine Ev.step (f := fun _ => some true) (fun k => ?_) (Ev.now _)
      simp only [depotlaw22_RelationLists.j1, Bool.false_eq_true, if_false, if_true, if_neg (show ¬ (220 : Int) = 0 by omega)]
      rw [if_pos (by omega), if_pos (by omega), if_pos (by omega), e2]
      rfl
  · have hn : (placeM s (readM true s.data.toList)).2.1 = (readM true s.data.toList).2.1 := rfl
    simp only [hn, if_neg h0]
    rcases hC with ⟨a1, a2⟩ | ⟨r, a1, a2, a3⟩
    · rw [a1]
      have he := readM_err true _ h0
      simp only [hn, if_neg h0, he, if_pos (Int.le_refl _)]
      exact Ev.now _
    · rw [a1]
      rw [a1] at hs2
      obtain ⟨c1, c2⟩ := at_suf hs2
      simp only [List.length_cons] at c1 c2
      have hle : (placeM s (([] : List (List S23)), (220 : Int), (124 : UInt8) :: r)).2.2 ≤ (placeM s (readM true s.data.toList)).2.2 := by
        simp only [placeM, if_neg h0, if_neg (show ¬ (220 : Int) = 0 by omega), List.length_cons]
        omega
      simp only [if_pos hle]
      exact Ev.now _
end Go.Proofs.YtphabealejpfnaaDoor.Model
