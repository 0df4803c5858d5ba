/-
  Plain Lean: what the reader's lists are made of; plain lists of relations, copies, and lists held against themselves.
-/
import Derived.Test.YtphabealejpfnaaDoorVyModelLists
set_option linter.unusedVariables false
set_option linter.unusedSimpArgs false
namespace Go.Proofs.YtphabealejpfnaaDoor.Model
open Go.RowKit Go.Proofs.YtphabealejpfnaaDoor.V Go.Proofs.YtphabealejpfnaaDoorW.PrintWords Go.Proofs.YtphabealejpfnaaDoorW.PrintLast Go.Proofs.YtphabealejpfnaaDoor.Ver

/-! ### what is left is an end of the text -/
theorem dg_suf (l : B) : dg l <:+ l := List.dropWhile_suffix _
theorem dw_suf (p : UInt8 → Bool) (l : B) : l.dropWhile p <:+ l := List.dropWhile_suffix _
theorem suf_cons {c : UInt8} {r l : B} (h : r <:+ l) : r <:+ c :: l := h.trans (List.suffix_cons _ _)
theorem closeM_suf (x : S23) (l : B) : (closeM x l).2 <:+ l := by
  unfold closeM
  split
  · exact List.suffix_refl _
  · split
    · exact suf_cons (dg_suf _)
    · exact List.suffix_refl _
theorem versM_suf (nm : B) (op : Int) (l : B) : (versM nm op l).2 <:+ l := by
  unfold versM
  split
  · exact List.suffix_refl _
  · split
    · exact List.suffix_refl _
    · exact (closeM_suf _ _).trans ((dg_suf _).trans (dw_suf _ _))
theorem operM_suf (nm : B) (l : B) : (operM nm l).2 <:+ l := by
  unfold operM
  split
  · exact List.suffix_refl _
  · exact (versM_suf _ _ _).trans ((dg_suf _).trans (dw_suf _ _))
theorem openM_suf (nm : B) (l : B) : (openM nm l).2 <:+ l := by
  unfold openM
  split
  · exact List.suffix_refl _
  · split
    · exact suf_cons ((operM_suf _ _).trans (dg_suf _))
    · exact List.suffix_refl _
theorem relM_suf (l : B) : (relM l).2 <:+ l := by
  unfold relM
  split
  · exact List.suffix_refl _
  · split
    · exact List.suffix_refl _
    · exact (openM_suf _ _).trans ((dg_suf _).trans (dw_suf _ _))
theorem listsM_suf (bars : Bool) : ∀ (d : Nat) (x8 : List (List S23)) (x10 : List S23) (l : B), (listsM bars d x8 x10 l).2.2 <:+ l := by
  intro d
  induction d with
  | zero => intro x8 x10 l; exact List.suffix_refl _
  | succ d ih =>
    intro x8 x10 l
    have hs := relM_suf l
    rw [listsM]
    split
    · rename_i e r hR
      rw [hR] at hs; exact hs
    · rename_i x hR
      rw [hR] at hs; exact hs
    · rename_i x c r hR
      rw [hR] at hs
      have hr : dg r <:+ l := (suf_cons (dg_suf r)).trans hs
      split
      · exact (ih _ _ _).trans hr
      · split
        · exact (ih _ _ _).trans hr
        · exact hs
theorem readM_suf (bars : Bool) (l : B) : (readM bars l).2.2 <:+ l := by
  unfold readM
  split
  · exact List.nil_suffix
  · exact (listsM_suf _ _ _ _ _).trans (dg_suf _)
theorem at_suf {s : ByteArray} {r : B} (h : r <:+ s.data.toList) : at_ s (s.size - r.length) = r ∧ r.length ≤ s.size := by
  obtain ⟨p, hp⟩ := h
  have hl : p.length + r.length = s.size := by
    have := congrArg List.length hp
    rw [List.length_append] at this
    exact this
  refine ⟨?_, by omega⟩
  unfold at_
  rw [← hp, show s.size - r.length = p.length by omega, List.drop_left]

/-! ### what the lists are -/
def wt (l : List S23) : Nat := (l.map relSize).sum
theorem wt_append (a b : List S23) : wt (a ++ b) = wt a + wt b := by
  unfold wt
  rw [List.map_append, List.sum_append]
theorem wt_one (x : S23) : wt [x] = relSize x := by simp [wt]
theorem wt_len {l : List S23} (h : ∀ x ∈ l, 1 ≤ x.f0.size) : l.length ≤ wt l := by
  induction l with
  | nil => exact Nat.zero_le _
  | cons x l ih =>
    have h1 := ih (fun y hy => h y (List.mem_cons_of_mem _ hy))
    have h2 := h x (List.mem_cons_self ..)
    have h3 : wt (x :: l) = relSize x + wt l := by simp [wt]
    rw [h3, List.length_cons]
    unfold relSize
    omega
def Good (x : S23) : Prop := formM x = true ∧ 1 ≤ x.f0.size
theorem listsM_ok (bars : Bool) : ∀ (d : Nat) (x8 : List (List S23)) (x10 : List S23) (l : B), l.length < d → (listsM bars d x8 x10 l).2.1 = 0 →
    (listsM bars d x8 x10 l).2.2 = [] ∧ ∃ t rest, (listsM bars d x8 x10 l).1 = x8 ++ (x10 ++ t) :: rest ∧ t ≠ [] ∧ (∀ m ∈ rest, m ≠ []) ∧ (∀ x ∈ t ++ rest.flatten, Good x) ∧ wt (t ++ rest.flatten) ≤ l.length := by
  intro d
  induction d with
  | zero => intro x8 x10 l h; omega
  | succ d ih =>
    intro x8 x10 l hd
    rw [listsM]
    split
    · rename_i e r hR
      intro h0
      have := (relM_inl hR).1
      simp only at h0
      omega
    · rename_i x hR
      intro _
      obtain ⟨f1, f2, f3, f4⟩ := relM_inr hR
      refine ⟨rfl, [x], [], by simp, by simp, by simp, ?_, ?_⟩
      · intro y hy
        obtain rfl : y = x := by simpa using hy
        exact ⟨f1, f2⟩
      · simp only [List.flatten_nil, List.append_nil, wt_one]
        simp at f3
        omega
    · rename_i x c r hR
      obtain ⟨f1, f2, f3, f4⟩ := relM_inr hR
      have hg := dg_le r
      simp only [List.length_cons] at f3
      have hsz : 1 ≤ relSize x := by unfold relSize; omega
      split
      · intro h0
        obtain ⟨a, t, rest, b1, b2, b3, b4, b5⟩ := ih x8 (x10 ++ [x]) (dg r) (by omega) h0
        refine ⟨a, x :: t, rest, by rw [b1]; simp, by simp, b3, ?_, ?_⟩
        · intro y hy
          rcases List.mem_cons.1 (show y ∈ x :: (t ++ rest.flatten) from hy) with q | q
          · rw [q]; exact ⟨f1, f2⟩
          · exact b4 y q
        · have : wt (x :: t ++ rest.flatten) = relSize x + wt (t ++ rest.flatten) := by simp [wt]
          omega
      · split
        · intro h0
          obtain ⟨a, t, rest, b1, b2, b3, b4, b5⟩ := ih (x8 ++ [x10 ++ [x]]) [] (dg r) (by omega) h0
          refine ⟨a, [x], ([] ++ t) :: rest, by rw [b1]; simp, by simp, ?_, ?_, ?_⟩
          · intro m hm
            rcases List.mem_cons.1 hm with q | q
            · rw [q]; simpa using b2
            · exact b3 m q
          · intro y hy
            have hy' : y ∈ x :: (t ++ rest.flatten) := by simpa using hy
            rcases List.mem_cons.1 hy' with q | q
            · rw [q]; exact ⟨f1, f2⟩
            · exact b4 y q
          · have : wt ([x] ++ (([] ++ t) :: rest).flatten) = relSize x + wt (t ++ rest.flatten) := by simp [wt]
            omega
        · intro h0
          simp at h0
theorem listsM_err (bars : Bool) : ∀ (d : Nat) (x8 : List (List S23)) (x10 : List S23) (l : B), l.length < d → ¬ (listsM bars d x8 x10 l).2.1 = 0 → (listsM bars d x8 x10 l).1 = [] := by
  intro d
  induction d with
  | zero => intro x8 x10 l h; omega
  | succ d ih =>
    intro x8 x10 l hd
    rw [listsM]
    split
    · intro _; rfl
    · intro h; exact absurd rfl h
    · rename_i x c r hR
      obtain ⟨f1, f2, f3, f4⟩ := relM_inr hR
      have hg := dg_le r
      simp only [List.length_cons] at f3
      split
      · exact ih _ _ _ (by omega)
      · split
        · exact ih _ _ _ (by omega)
        · intro _; rfl
/-- A text that is read: nothing is left, its lists aren't empty, its relations are well shaped, and take no more than the text. -/
theorem readM_ok (bars : Bool) (l : B) (h : (readM bars l).2.1 = 0) : (readM bars l).2.2 = [] ∧ (∀ m ∈ (readM bars l).1, m ≠ []) ∧ (∀ x ∈ (readM bars l).1.flatten, Good x) ∧ wt (readM bars l).1.flatten ≤ l.length := by
  unfold readM at h ⊢
  split at h
  · rename_i hn
    rw [if_pos hn]
    exact ⟨rfl, by simp, by simp, by simp [wt]⟩
  · rename_i hn
    rw [if_neg hn]
    obtain ⟨a, t, rest, b1, b2, b3, b4, b5⟩ := listsM_ok bars _ [] [] (dg l) (Nat.lt_succ_self _) h
    have hg := dg_le l
    have e : (listsM bars ((dg l).length + 1) [] [] (dg l)).1 = t :: rest := by simpa using b1
    rw [e]
    refine ⟨a, ?_, b4, Nat.le_trans b5 hg⟩
    intro m hm
    rcases List.mem_cons.1 hm with q | q
    · rw [q]; exact b2
    · exact b3 m q
theorem readM_err (bars : Bool) (l : B) (h : ¬ (readM bars l).2.1 = 0) : (readM bars l).1 = [] := by
  unfold readM at h ⊢
  split at h
  · exact absurd rfl h
  · rename_i hn
    rw [if_neg hn]
    exact listsM_err bars _ [] [] (dg l) (Nat.lt_succ_self _) h
theorem readM_none (bars : Bool) (l : B) (h : (readM bars l).2.1 = 0) : (readM bars l).1 = [] ↔ dg l = [] := by
  unfold readM at h ⊢
  split at h
  · rename_i hn
    rw [if_pos hn]
    exact ⟨fun _ => hn, fun _ => rfl⟩
  · rename_i hn
    rw [if_neg hn]
    obtain ⟨a, t, rest, b1, b2, b3, b4, b5⟩ := listsM_ok bars _ [] [] (dg l) (Nat.lt_succ_self _) h
    rw [b1]
    exact ⟨fun q => by simp at q, fun q => absurd q hn⟩
theorem flat_len {L : List (List S23)} (h : ∀ m ∈ L, m ≠ []) : L.length ≤ L.flatten.length := by
  induction L with
  | nil => exact Nat.le_refl _
  | cons a L ih =>
    have h1 := ih (fun m hm => h m (List.mem_cons_of_mem _ hm))
    have h2 : 1 ≤ a.length := by
      rcases Nat.eq_zero_or_pos a.length with q | q
      · exact absurd (List.eq_nil_of_length_eq_zero q) (h a (List.mem_cons_self ..))
      · exact q
    simp only [List.flatten_cons, List.length_append, List.length_cons]
    omega
theorem row_len {L : List (List S23)} {m : List S23} (h : m ∈ L) : m.length ≤ L.flatten.length := by
  induction L with
  | nil => cases h
  | cons a L ih =>
    simp only [List.flatten_cons, List.length_append]
    rcases List.mem_cons.1 h with q | q
    · rw [q]; omega
    · have := ih q; omega
theorem readM_bd (bars : Bool) (l : B) : (readM bars l).1.flatten.length ≤ l.length ∧ (readM bars l).1.length ≤ l.length := by
  by_cases h : (readM bars l).2.1 = 0
  · obtain ⟨a, b, c, d⟩ := readM_ok bars l h
    have h1 := wt_len (fun x hx => (c x hx).2)
    have h2 := flat_len b
    omega
  · rw [readM_err bars l h]
    simp

/-! ### the statements' own small functions -/
theorem rd_at {L : List (List S23)} {i : Nat} (h : i < L.length) : rd_L7 L (i : Int) = L[i] := by
  unfold rd_L7
  rw [Int.toNat_natCast, List.getD_eq_getElem?_getD, List.getElem?_eq_getElem h, Option.getD_some]
theorem rt_at {l : List S23} {i : Nat} (h : i < l.length) : rd_T23 l (i : Int) = l[i] := by
  unfold rd_T23
  rw [Int.toNat_natCast, List.getD_eq_getElem?_getD, List.getElem?_eq_getElem h, Option.getD_some]
theorem drop_at {α : Type} {l : List α} {i : Nat} (h : i < l.length) : l.drop i = l[i] :: l.drop (i + 1) := List.drop_eq_getElem_cons h
end Go.Proofs.YtphabealejpfnaaDoor.Model
