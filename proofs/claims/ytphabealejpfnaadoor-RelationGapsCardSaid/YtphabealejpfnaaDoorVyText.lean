/-
  Plain Lean: the text of relations, and that it is read back as it was.
-/
import Derived.Test.YtphabealejpfnaaDoorVyBytes
import Derived.Lib.Join
set_option linter.unusedVariables false
set_option linter.unusedSimpArgs false
namespace Go.Proofs.YtphabealejpfnaaDoor.Model
open Go.RowKit Go.Proofs.YtphabealejpfnaaDoor.V Go.Proofs.YtphabealejpfnaaDoorW.PrintWords Go.Proofs.YtphabealejpfnaaDoorW.PrintLast Go.Proofs.YtphabealejpfnaaDoor.Ver

def textM (x : S23) : B := if x.f1 = 0 then x.f0.data.toList else x.f0.data.toList ++ ([32, 40] ++ ((wordOf x.f1).data.toList ++ ([32] ++ (x.f2.data.toList ++ [41]))))
def rowT (m : List S23) : B := Lib.join (m.map textM) [32, 124, 32]
def textsM (L : List (List S23)) : B := Lib.join (L.map rowT) [44, 32]
def okL (L : List (List S23)) : Bool := L.all (fun m => !m.isEmpty && m.all formM)
theorem ofL_id (s : ByteArray) (h : s.toList = []) : s = ⟨#[]⟩ := by
  have := (toL_nil s).1 h
  exact this
where
  toL_nil (s : ByteArray) : s.toList = [] ↔ s = ⟨#[]⟩ := by
    constructor
    · intro h
      have h2 := ofL_toL s
      rw [ByteArray.toList_eq] at h
      rw [h] at h2
      exact h2.symm
    · intro h
      rw [h, ByteArray.toList_eq]
theorem data_ne {s : ByteArray} (h : ¬ s.toList = []) : s.data.toList ≠ [] := by
  rwa [ByteArray.toList_eq] at h
theorem form_parts {x : S23} (h : formM x = true) : nameM x.f0.data.toList = true ∧ ((x.f1 = 0 ∧ x.f2 = ⟨#[]⟩) ∨ (¬ x.f1 = 0 ∧ ¬ (wordOf x.f1).toList = [] ∧ okS x.f2 = true)) := by
  unfold formM at h
  rw [Bool.and_eq_true] at h
  refine ⟨h.1, ?_⟩
  have h2 := h.2
  split at h2
  · rename_i h0
    exact .inl ⟨h0, ofL_id _ (by simpa using h2)⟩
  · rename_i h0
    split at h2
    · cases h2
    · rename_i h1
      exact .inr ⟨h0, h1, h2⟩
theorem op_word {z : Int} (h : ¬ (wordOf z).toList = []) : opOf (wordOf z) = z ∧ (∀ x ∈ (wordOf z).data.toList, mrkB x = true) ∧ (wordOf z).data.toList ≠ [] := by
  refine ⟨?_, ?_, data_ne h⟩
  · revert h
    unfold wordOf
    repeat' split
    all_goals first
      | (rename_i e; subst e; intro _; unfold opOf; simp [ByteArray.toList_eq]; done)
      | (intro h; exact absurd (by rw [ByteArray.toList_eq]) h)
  · revert h
    unfold wordOf
    repeat' split
    all_goals first
      | (intro _; decide)
      | (intro h; exact absurd (by rw [ByteArray.toList_eq]) h)
theorem wrd_gap {l : B} (h : ∀ x ∈ l, wrdB x = true) (hn : l ≠ []) (r : B) : dg (l ++ r) = l ++ r := by
  cases l with
  | nil => exact absurd rfl hn
  | cons c l => exact dg_cons (wrd_no (h c (List.mem_cons_self ..))).1 _
/-- A relation's text, and what may stand behind it. -/
theorem rel_text {x : S23} (h : formM x = true) {X : B} (hX : Stops X) (hp : ∀ r, dg X ≠ 40 :: r) : relM (textM x ++ X) = (.inr x, dg X) := by
  obtain ⟨hn, hb⟩ := form_parts h
  obtain ⟨n1, n2⟩ := name_wrd hn
  unfold textM
  rcases hb with ⟨h1, h2⟩ | ⟨h1, h2, h3⟩
  · rw [if_pos h1]
    obtain ⟨t1, t2⟩ := tw_stops n1 hX
    unfold relM
    rw [t1, t2, if_neg n2, if_neg (by simp [hn])]
    unfold openM
    split
    · rename_i e
      rw [e, ofL_toL]
      rw [show x = ⟨x.f0, x.f1, x.f2⟩ from rfl, h1, h2]
    · rename_i c r e
      rw [if_neg (fun q => hp r (by rw [e, q])), e, ofL_toL]
      rw [show x = ⟨x.f0, x.f1, x.f2⟩ from rfl, h1, h2]
  · rw [if_neg h1]
    obtain ⟨o1, o2, o3⟩ := op_word h2
    obtain ⟨v1, v2⟩ := ver_wrd h3
    rw [List.append_assoc]
    have hs : Stops (([32, 40] ++ ((wordOf x.f1).data.toList ++ ([32] ++ (x.f2.data.toList ++ [41])))) ++ X) := stops_cons (by decide)
    obtain ⟨t1, t2⟩ := tw_stops n1 hs
    unfold relM
    rw [t1, t2, if_neg n2, if_neg (by simp [hn])]
    have e1 : dg (([32, 40] ++ ((wordOf x.f1).data.toList ++ ([32] ++ (x.f2.data.toList ++ [41])))) ++ X) = 40 :: ((wordOf x.f1).data.toList ++ (32 :: (x.f2.data.toList ++ (41 :: X)))) := by
      simp [dg, List.dropWhile_cons, gapB]
    rw [e1]
    simp only [openM, if_true]
    rw [wrd_gap (fun y hy => mrk_wrd (o2 y hy)) o3]
    obtain ⟨m1, m2⟩ := tw_stops (p := mrkB) o2 (l := 32 :: (x.f2.data.toList ++ (41 :: X))) (fun c r e => by
      injection e with e1 e2
      rw [← e1]; decide)
    unfold operM
    rw [m1, m2, ofL_toL, o1, if_neg h1]
    have e2 : dg (32 :: (x.f2.data.toList ++ (41 :: X))) = x.f2.data.toList ++ (41 :: X) := by
      rw [dg, List.dropWhile_cons, if_pos (by decide)]
      exact wrd_gap v1 v2 _
    rw [e2]
    obtain ⟨w1, w2⟩ := tw_stops v1 (stops_cons (c := 41) (l := X) (by decide))
    unfold versM
    rw [w1, w2, if_neg v2, ofL_toL, if_neg (by simp [h3]), dg_cons (by decide)]
    simp only [closeM, if_true, ofL_toL]
theorem text_ne {x : S23} (h : formM x = true) : ∃ c r, textM x = c :: r ∧ gapB c = false := by
  obtain ⟨hn, _⟩ := form_parts h
  obtain ⟨n1, n2⟩ := name_wrd hn
  cases hl : x.f0.data.toList with
  | nil => exact absurd hl n2
  | cons c r =>
    have hg := (wrd_no (n1 c (by rw [hl]; exact List.mem_cons_self ..))).1
    unfold textM
    rw [hl]
    split
    · exact ⟨c, r, rfl, hg⟩
    · exact ⟨c, _, rfl, hg⟩
theorem dg_text {x : S23} (h : formM x = true) (X : B) : dg (textM x ++ X) = textM x ++ X := by
  obtain ⟨c, r, e, hg⟩ := text_ne h
  rw [e]
  exact dg_cons hg _
theorem joinTail_cons (sep : B) (x : B) (r : List B) : Lib.joinTail sep (x :: r) = sep ++ (x ++ Lib.joinTail sep r) := by
  simp [Lib.joinTail]
/-- A list's text, read from within it. -/
theorem row_text (bars : Bool) (x8 : List (List S23)) (Y : B) (hY : Y = [] ∨ ∃ Z, Y = 44 :: 32 :: Z) : ∀ (m : List S23) (x : S23) (x10 : List S23), (∀ y ∈ x :: m, formM y = true) → (m = [] ∨ bars = true) →
    listsF bars x8 x10 (textM x ++ (Lib.joinTail [32, 124, 32] (m.map textM) ++ Y)) = (match Y with
      | [] => (x8 ++ [x10 ++ x :: m], 0, [])
      | _ :: Z => listsF bars (x8 ++ [x10 ++ x :: m]) [] (dg Z)) := by
  intro m
  induction m with
  | nil =>
    intro x x10 hf _
    have hx := hf x (List.mem_cons_self ..)
    simp only [List.map_nil, Lib.joinTail, List.flatten_nil, List.nil_append]
    rcases hY with rfl | ⟨Z, rfl⟩
    · rw [listsF_eq, rel_text hx stops_nil (by simp [dg])]
      simp [dg]
    · rw [listsF_eq, rel_text hx (stops_cons (by decide)) (by rw [dg_cons (by decide)]; simp), dg_cons (by decide)]
      simp only
      rw [if_neg (by simp), if_pos trivial]
  | cons y m ih =>
    intro x x10 hf hb
    have hbars : bars = true := hb.resolve_left (by simp)
    have hx := hf x (List.mem_cons_self ..)
    have hy := hf y (List.mem_cons_of_mem _ (List.mem_cons_self ..))
    rw [List.map_cons, joinTail_cons, List.append_assoc]
    have hst : Stops ([32, 124, 32] ++ ((textM y ++ Lib.joinTail [32, 124, 32] (m.map textM)) ++ Y)) := stops_cons (by decide)
    have e1 : dg ([32, 124, 32] ++ ((textM y ++ Lib.joinTail [32, 124, 32] (m.map textM)) ++ Y)) = 124 :: 32 :: ((textM y ++ Lib.joinTail [32, 124, 32] (m.map textM)) ++ Y) := by
      simp [dg, List.dropWhile_cons, gapB]
    have e2 : dg (32 :: ((textM y ++ Lib.joinTail [32, 124, 32] (m.map textM)) ++ Y)) = textM y ++ (Lib.joinTail [32, 124, 32] (m.map textM) ++ Y) := by
      rw [dg, List.dropWhile_cons, if_pos (by decide), List.append_assoc]
      exact dg_text hy _
    rw [listsF_eq, rel_text hx hst (by rw [e1]; simp), e1]
    simp only
    rw [if_pos ⟨trivial, hbars⟩, e2, ih y (x10 ++ [x]) (fun z hz => hf z (List.mem_cons_of_mem _ hz)) (.inr hbars)]
    simp
theorem rowT_cons (x : S23) (m : List S23) : rowT (x :: m) = textM x ++ Lib.joinTail [32, 124, 32] (m.map textM) := by
  unfold rowT
  rw [List.map_cons, Lib.join_cons]
/-- All lists' text, read. -/
theorem rows_text (bars : Bool) : ∀ (L : List (List S23)) (m : List S23) (x8 : List (List S23)), okL (m :: L) = true → ((∀ r ∈ m :: L, r.length = 1) ∨ bars = true) →
    listsF bars x8 [] (rowT m ++ Lib.joinTail [44, 32] (L.map rowT)) = (x8 ++ m :: L, 0, []) := by
  intro L
  induction L with
  | nil =>
    intro m x8 h hb
    simp only [okL, List.all_cons, List.all_nil, Bool.and_true, Bool.and_eq_true] at h
    cases m with
    | nil => simp at h
    | cons x m =>
      have hf := List.all_eq_true.1 h.2
      have hm : m = [] ∨ bars = true := by
        rcases hb with hb | hb
        · have := hb (x :: m) (List.mem_cons_self ..)
          exact .inl (List.eq_nil_of_length_eq_zero (by simpa using this))
        · exact .inr hb
      have := row_text bars x8 [] (.inl rfl) m x [] hf hm
      rw [rowT_cons]
      simp only [List.map_nil, Lib.joinTail, List.flatten_nil, List.append_nil, List.nil_append] at this ⊢
      exact this
  | cons m' L ih =>
    intro m x8 h hb
    have h' : okL (m' :: L) = true := by
      unfold okL at h ⊢
      rw [List.all_cons, Bool.and_eq_true] at h
      exact h.2
    have hm0 : (!m.isEmpty && m.all formM) = true := by
      unfold okL at h
      rw [List.all_cons, Bool.and_eq_true] at h
      exact h.1
    rw [Bool.and_eq_true] at hm0
    cases m with
    | nil => simp at hm0
    | cons x m =>
      have hf := List.all_eq_true.1 hm0.2
      have hm : m = [] ∨ bars = true := by
        rcases hb with hb | hb
        · have := hb (x :: m) (List.mem_cons_self ..)
          exact .inl (List.eq_nil_of_length_eq_zero (by simpa using this))
        · exact .inr hb
      have hb' : (∀ r ∈ m' :: L, r.length = 1) ∨ bars = true := hb.imp_left (fun q r hr => q r (List.mem_cons_of_mem _ hr))
      rw [List.map_cons, joinTail_cons, rowT_cons, List.append_assoc]
      have := row_text bars x8 (44 :: 32 :: (rowT m' ++ Lib.joinTail [44, 32] (L.map rowT))) (.inr ⟨_, rfl⟩) m x [] hf hm
      simp only [List.nil_append] at this
      show listsF bars x8 [] (textM x ++ (Lib.joinTail [32, 124, 32] (m.map textM) ++ (44 :: 32 :: (rowT m' ++ Lib.joinTail [44, 32] (L.map rowT))))) = _
      rw [this]
      have e2 : dg (32 :: (rowT m' ++ Lib.joinTail [44, 32] (L.map rowT))) = rowT m' ++ Lib.joinTail [44, 32] (L.map rowT) := by
        rw [dg, List.dropWhile_cons, if_pos (by decide)]
        have hm1 : (!m'.isEmpty && m'.all formM) = true := by
          unfold okL at h'
          rw [List.all_cons, Bool.and_eq_true] at h'
          exact h'.1
        rw [Bool.and_eq_true] at hm1
        cases m' with
        | nil => simp at hm1
        | cons y m' =>
          rw [rowT_cons, List.append_assoc]
          exact dg_text (List.all_eq_true.1 hm1.2 y (List.mem_cons_self ..)) _
      rw [e2, ih m' (x8 ++ [x :: m]) h' hb']
      simp
/-- What is written is read as it was. -/
theorem read_texts (bars : Bool) (L : List (List S23)) (h : okL L = true) (hb : (∀ r ∈ L, r.length = 1) ∨ bars = true) : (readM bars (textsM L)).1 = L ∧ (readM bars (textsM L)).2.1 = 0 := by
  cases L with
  | nil => exact ⟨rfl, rfl⟩
  | cons m L =>
    unfold textsM
    rw [List.map_cons, Lib.join_cons, readM_eq]
    have hm0 : (!m.isEmpty && m.all formM) = true := by
      unfold okL at h
      rw [List.all_cons, Bool.and_eq_true] at h
      exact h.1
    rw [Bool.and_eq_true] at hm0
    have e2 : dg (rowT m ++ Lib.joinTail [44, 32] (L.map rowT)) = rowT m ++ Lib.joinTail [44, 32] (L.map rowT) ∧ rowT m ++ Lib.joinTail [44, 32] (L.map rowT) ≠ [] := by
      cases m with
      | nil => simp at hm0
      | cons y m' =>
        have hy := List.all_eq_true.1 hm0.2 y (List.mem_cons_self ..)
        rw [rowT_cons, List.append_assoc]
        obtain ⟨c, r, e, _⟩ := text_ne hy
        exact ⟨dg_text hy _, by rw [e]; simp⟩
    rw [e2.1, if_neg e2.2, rows_text bars L m [] h hb]
    exact ⟨rfl, rfl⟩
end Go.Proofs.YtphabealejpfnaaDoor.Model
