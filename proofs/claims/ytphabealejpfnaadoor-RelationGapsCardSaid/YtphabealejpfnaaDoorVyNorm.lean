/-
  Plain Lean: gaps beside signs and at a text's ends say nothing to the reader: a text without them reads as it did.
-/
import Derived.Test.YtphabealejpfnaaDoorVyModelProps
set_option linter.unusedVariables false
set_option linter.unusedSimpArgs false
namespace Go.Proofs.YtphabealejpfnaaDoor.Model
open Go.RowKit Go.Proofs.YtphabealejpfnaaDoor.V Go.Proofs.YtphabealejpfnaaDoorW.PrintWords Go.Proofs.YtphabealejpfnaaDoorW.PrintLast Go.Proofs.YtphabealejpfnaaDoor.Ver

/-! ### lists, without a bound on the rounds -/
theorem listsM_more (bars : Bool) : ∀ (d e : Nat) (x8 : List (List S23)) (x10 : List S23) (l : B), l.length < d → l.length < e → listsM bars d x8 x10 l = listsM bars e x8 x10 l := by
  intro d
  induction d with
  | zero => intro e x8 x10 l h; omega
  | succ d ih =>
    intro e x8 x10 l h1 h2
    obtain ⟨e, rfl⟩ : ∃ m, e = m + 1 := ⟨e - 1, by omega⟩
    rw [listsM, listsM]
    cases hR : relM l with
    | mk q r =>
    cases q with
    | inl er => rfl
    | inr x =>
      obtain ⟨f1, f2, f3, f4⟩ := relM_inr hR
      cases r with
      | nil => rfl
      | cons c r =>
        have hg := dg_le r
        simp only [List.length_cons] at f3
        simp only
        split
        · exact ih _ _ _ _ (by omega) (by omega)
        · split
          · exact ih _ _ _ _ (by omega) (by omega)
          · rfl
def listsF (bars : Bool) (x8 : List (List S23)) (x10 : List S23) (l : B) : List (List S23) × Int × B := listsM bars (l.length + 1) x8 x10 l
theorem listsF_eq (bars : Bool) (x8 : List (List S23)) (x10 : List S23) (l : B) : listsF bars x8 x10 l = match relM l with
    | (.inl e, r) => ([], e, r)
    | (.inr x, []) => (x8 ++ [x10 ++ [x]], 0, [])
    | (.inr x, c :: r) => if c = 124 ∧ bars = true then listsF bars x8 (x10 ++ [x]) (dg r) else if c = 44 then listsF bars (x8 ++ [x10 ++ [x]]) [] (dg r) else ([], 220, c :: r) := by
  unfold listsF
  rw [listsM]
  cases hR : relM l with
  | mk q r =>
  cases q with
  | inl er => rfl
  | inr x =>
    obtain ⟨f1, f2, f3, f4⟩ := relM_inr hR
    cases r with
    | nil => rfl
    | cons c r =>
      have hg := dg_le r
      simp only [List.length_cons] at f3
      simp only
      split
      · exact listsM_more _ _ _ _ _ _ (by omega) (by omega)
      · split
        · exact listsM_more _ _ _ _ _ _ (by omega) (by omega)
        · rfl
theorem readM_eq (bars : Bool) (l : B) : readM bars l = if dg l = [] then ([], 0, []) else listsF bars [] [] (dg l) := rfl

/-! ### a text without the gaps beside its signs and at its ends -/
def bareM : Bool → B → B → B
  | _, _, [] => []
  | b, p, c :: l => if gapB c = true then bareM b (p ++ [c]) l else if (b || sgnB c) = true then c :: bareM (sgnB c) [] l else p ++ c :: bareM (sgnB c) [] l
def N (l : B) : B := bareM true [] l
theorem gap_sgn {c : UInt8} (h : gapB c = true) : sgnB c = false := by
  exact byte_all (P := fun c => gapB c = true → sgnB c = false) (by decide +kernel) c h
theorem wrd_no {c : UInt8} (h : wrdB c = true) : gapB c = false ∧ sgnB c = false := by
  unfold wrdB at h
  simpa using h
theorem mrk_wrd {c : UInt8} (h : mrkB c = true) : wrdB c = true := by
  exact byte_all (P := fun c => mrkB c = true → wrdB c = true) (by decide +kernel) c h
theorem not_wrd {c : UInt8} (h : wrdB c = false) (hg : gapB c = false) : sgnB c = true := by
  unfold wrdB at h
  rw [hg] at h
  simpa using h
theorem bare_true (l : B) : ∀ p q, bareM true p l = bareM true q l := by
  induction l with
  | nil => intro p q; rfl
  | cons c l ih =>
    intro p q
    rw [bareM, bareM]
    split
    · exact ih _ _
    · rfl
theorem bare_pre (g : B) (hg : ∀ x ∈ g, gapB x = true) (b : Bool) (l : B) : ∀ p, bareM b p (g ++ l) = bareM b (p ++ g) l := by
  induction g with
  | nil => intro p; simp
  | cons c g ih =>
    intro p
    rw [List.cons_append, bareM, if_pos (hg c (List.mem_cons_self ..)), ih (fun x hx => hg x (List.mem_cons_of_mem _ hx))]
    simp
theorem bare_gaps (g : B) (hg : ∀ x ∈ g, gapB x = true) (b : Bool) (p : B) : bareM b p g = [] := by
  have := bare_pre g hg b [] p
  rw [List.append_nil] at this
  rw [this]; rfl
theorem dg_split (l : B) : l = l.takeWhile gapB ++ dg l ∧ ∀ x ∈ l.takeWhile gapB, gapB x = true :=
  ⟨(List.takeWhile_append_dropWhile (p := gapB) (l := l)).symm, fun x hx => by
    have := List.all_takeWhile (p := gapB) (l := l)
    exact List.all_eq_true.1 this x hx⟩
theorem dg_head {l r : B} {c : UInt8} (h : dg l = c :: r) : gapB c = false := by
  unfold dg at h
  induction l with
  | nil => simp at h
  | cons x l ih =>
    rw [List.dropWhile_cons] at h
    split at h
    · exact ih h
    · rename_i hx
      injection h with h1 h2
      rw [← h1]
      simpa using hx
theorem dg_cons {c : UInt8} (h : gapB c = false) (l : B) : dg (c :: l) = c :: l := by
  unfold dg
  rw [List.dropWhile_cons, if_neg (by simp [h])]
theorem dg_gaps {g : B} (hg : ∀ x ∈ g, gapB x = true) (l : B) : dg (g ++ l) = dg l := by
  induction g with
  | nil => rfl
  | cons c g ih =>
    have h := hg c (List.mem_cons_self ..)
    show dg (c :: (g ++ l)) = _
    rw [dg, List.dropWhile_cons, if_pos h]
    exact ih (fun x hx => hg x (List.mem_cons_of_mem _ hx))
theorem N_dg (l : B) : N l = N (dg l) := by
  obtain ⟨h1, h2⟩ := dg_split l
  conv => lhs; rw [h1]
  unfold N
  rw [bare_pre _ h2]
  exact bare_true _ _ _
theorem N_cons {c : UInt8} (h : gapB c = false) (l : B) : N (c :: l) = c :: bareM (sgnB c) [] l := by
  unfold N
  rw [bareM, if_neg (by simp [h])]
  simp
theorem N_sgn {c : UInt8} (h : sgnB c = true) (hg : gapB c = false) (l : B) : N (c :: l) = c :: N l := by
  rw [N_cons hg, h]; rfl
theorem dg_N (l : B) : dg (N l) = N l := by
  rw [N_dg]
  cases hd : dg l with
  | nil => rfl
  | cons c r =>
    have hg := dg_head hd
    rw [N_cons hg, dg_cons hg]
theorem N_nil (l : B) : N l = [] ↔ dg l = [] := by
  rw [N_dg]
  cases hd : dg l with
  | nil => exact ⟨fun _ => rfl, fun _ => rfl⟩
  | cons c r =>
    rw [N_cons (dg_head hd)]
    exact ⟨fun h => by simp at h, fun h => by simp at h⟩

/-! ### the reader on it -/
theorem dg_bare (r : B) : ∀ p : B, (∀ x ∈ p, gapB x = true) → dg (bareM false p r) = N (dg r) := by
  induction r with
  | nil => intro p _; rfl
  | cons c r ih =>
    intro p hp
    rw [bareM]
    by_cases hc : gapB c = true
    · rw [if_pos hc, ih (p ++ [c]) (fun x hx => by
        rcases List.mem_append.1 hx with q | q
        · exact hp x q
        · rw [List.mem_singleton.1 q]; exact hc)]
      congr 1
      show dg r = dg (c :: r)
      rw [dg, dg, List.dropWhile_cons, if_pos hc]
    · have hc' : gapB c = false := by simpa using hc
      rw [if_neg hc, dg_cons hc', N_cons hc']
      split
      · rw [dg_cons hc']
      · rw [dg_gaps hp, dg_cons hc']
/-- No byte of a word comes first. -/
def Stops (l : B) : Prop := ∀ c r, l = c :: r → wrdB c = false
theorem stops_nil : Stops [] := fun c r h => by simp at h
theorem stops_cons {c : UInt8} {l : B} (h : wrdB c = false) : Stops (c :: l) := fun d r e => by
  injection e with e1 e2
  rw [← e1]; exact h
theorem gap_nw {c : UInt8} (h : gapB c = true) : wrdB c = false := by unfold wrdB; simp [h]
theorem sgn_nw {c : UInt8} (h : sgnB c = true) : wrdB c = false := by unfold wrdB; simp [h]
theorem bare_stops (r : B) : ∀ p : B, (∀ x ∈ p, gapB x = true) → (p ≠ [] ∨ Stops r) → Stops (bareM false p r) := by
  induction r with
  | nil => intro p _ _; exact stops_nil
  | cons c r ih =>
    intro p hp h
    rw [bareM]
    by_cases hc : gapB c = true
    · rw [if_pos hc]
      refine ih (p ++ [c]) (fun x hx => ?_) (.inl (by simp))
      rcases List.mem_append.1 hx with q | q
      · exact hp x q
      · rw [List.mem_singleton.1 q]; exact hc
    · rw [if_neg hc]
      have hc' : gapB c = false := by simpa using hc
      by_cases hs : sgnB c = true
      · rw [if_pos (by simp [hs])]
        exact stops_cons (sgn_nw hs)
      · rw [if_neg (by simp [hs])]
        rcases h with h | h
        · cases p with
          | nil => exact absurd rfl h
          | cons y p => exact stops_cons (gap_nw (hp y (List.mem_cons_self ..)))
        · have := h c r rfl
          exact absurd (not_wrd this hc') hs
theorem tw_stops {p : UInt8 → Bool} {w l : B} (hw : ∀ x ∈ w, p x = true) (hl : ∀ c r, l = c :: r → p c = false) : (w ++ l).takeWhile p = w ∧ (w ++ l).dropWhile p = l := by
  induction w with
  | nil =>
    cases l with
    | nil => exact ⟨rfl, rfl⟩
    | cons c r =>
      have := hl c r rfl
      simp [List.takeWhile_cons, List.dropWhile_cons, this]
  | cons c w ih =>
    obtain ⟨h1, h2⟩ := ih (fun x hx => hw x (List.mem_cons_of_mem _ hx))
    have hc := hw c (List.mem_cons_self ..)
    simp [List.takeWhile_cons, List.dropWhile_cons, hc, h1, h2]
theorem dw_stops (p : UInt8 → Bool) (l : B) : ∀ c r, l.dropWhile p = c :: r → p c = false := by
  induction l with
  | nil => intro c r h; simp at h
  | cons x l ih =>
    intro c r h
    rw [List.dropWhile_cons] at h
    split at h
    · exact ih c r h
    · rename_i hx
      injection h with h1 h2
      rw [← h1]
      simpa using hx
theorem bare_word (l : B) : bareM false [] l = l.takeWhile wrdB ++ bareM false [] (l.dropWhile wrdB) := by
  induction l with
  | nil => rfl
  | cons c l ih =>
    by_cases h : wrdB c = true
    · obtain ⟨h1, h2⟩ := wrd_no h
      rw [List.takeWhile_cons, List.dropWhile_cons, if_pos h, if_pos h]
      conv => lhs; rw [bareM, if_neg (by simp [h1]), if_neg (by simp [h2]), h2, ih]
      rfl
    · rw [List.takeWhile_cons, List.dropWhile_cons, if_neg h, if_neg h]; rfl
theorem N_word {l : B} (h : l.takeWhile wrdB ≠ []) : N l = l.takeWhile wrdB ++ bareM false [] (l.dropWhile wrdB) := by
  cases l with
  | nil => simp at h
  | cons c l =>
    have hw : wrdB c = true := by
      cases hc : wrdB c with
      | true => rfl
      | false => rw [List.takeWhile_cons, if_neg (by simp [hc])] at h; exact absurd rfl h
    obtain ⟨h1, h2⟩ := wrd_no hw
    rw [← bare_word, N_cons h1, h2, bareM, if_neg (by simp [h1]), if_neg (by simp [h2]), h2]; rfl
theorem tw_mem (p : UInt8 → Bool) (l : B) : ∀ x ∈ l.takeWhile p, p x = true := fun x hx => List.all_eq_true.1 (List.all_takeWhile (p := p) (l := l)) x hx
/-- A word that stands first, and what follows it. -/
theorem word_N {l : B} (hd : dg l = l) : (N l).takeWhile wrdB = l.takeWhile wrdB ∧ dg ((N l).dropWhile wrdB) = N (dg (l.dropWhile wrdB)) := by
  by_cases h : l.takeWhile wrdB = []
  · cases l with
    | nil => exact ⟨rfl, rfl⟩
    | cons c l =>
      have hg := dg_head hd
      have hw : wrdB c = false := by
        cases hc : wrdB c with
        | false => rfl
        | true => rw [List.takeWhile_cons, if_pos hc] at h; simp at h
      rw [List.dropWhile_cons, if_neg (by simp [hw]), hd]
      have hN := N_cons hg l
      rw [hN, List.takeWhile_cons, List.takeWhile_cons, if_neg (by simp [hw]), if_neg (by simp [hw]), List.dropWhile_cons, if_neg (by simp [hw]), dg_cons hg]
      exact ⟨rfl, rfl⟩
  · rw [N_word h]
    have hs := bare_stops (l.dropWhile wrdB) [] (by simp) (.inr (fun c r e => dw_stops wrdB l c r e))
    obtain ⟨h1, h2⟩ := tw_stops (tw_mem wrdB l) hs
    rw [h1, h2]
    exact ⟨rfl, dg_bare _ [] (by simp)⟩
theorem mark_bare (l : B) : (bareM false [] l).takeWhile mrkB = l.takeWhile mrkB ∧ dg ((bareM false [] l).dropWhile mrkB) = N (dg (l.dropWhile mrkB)) := by
  induction l with
  | nil => exact ⟨rfl, rfl⟩
  | cons c l ih =>
    by_cases h : mrkB c = true
    · have hw := mrk_wrd h
      obtain ⟨h1, h2⟩ := wrd_no hw
      have e : bareM false [] (c :: l) = c :: bareM false [] l := by
        rw [bareM, if_neg (by simp [h1]), if_neg (by simp [h2]), h2]; rfl
      rw [e, List.takeWhile_cons, List.takeWhile_cons, List.dropWhile_cons, List.dropWhile_cons, if_pos h, if_pos h, if_pos h, if_pos h, ih.1, ih.2]
      exact ⟨rfl, rfl⟩
    · rw [List.takeWhile_cons, List.dropWhile_cons, if_neg h, if_neg h]
      have hst : ∀ d r, bareM false [] (c :: l) = d :: r → mrkB d = false := by
        intro d r e
        cases hm : mrkB d with
        | false => rfl
        | true =>
          exfalso
          have hwd := mrk_wrd hm
          by_cases hc : wrdB c = true
          · obtain ⟨h1, h2⟩ := wrd_no hc
            rw [bareM, if_neg (by simp [h1]), if_neg (by simp [h2]), h2] at e
            simp only [List.nil_append, List.cons.injEq] at e
            rw [e.1] at h
            exact h hm
          · have := bare_stops (c :: l) [] (by simp) (.inr (stops_cons (by simpa using hc))) d r e
            rw [this] at hwd
            exact absurd hwd (by decide)
      have h1 := tw_stops (w := []) (l := bareM false [] (c :: l)) (p := mrkB) (by simp) hst
      simp only [List.nil_append] at h1
      rw [h1.1, h1.2]
      exact ⟨rfl, dg_bare _ [] (by simp)⟩
theorem mark_N {l : B} (hd : dg l = l) : (N l).takeWhile mrkB = l.takeWhile mrkB ∧ dg ((N l).dropWhile mrkB) = N (dg (l.dropWhile mrkB)) := by
  cases l with
  | nil => exact ⟨rfl, rfl⟩
  | cons c l =>
    have hg := dg_head hd
    by_cases hs : sgnB c = true
    · have hm : mrkB c = false := by
        cases hm : mrkB c with
        | false => rfl
        | true =>
          have := (wrd_no (mrk_wrd hm)).2
          rw [this] at hs
          exact absurd hs (by decide)
      rw [N_cons hg, List.takeWhile_cons, List.takeWhile_cons, List.dropWhile_cons, List.dropWhile_cons, if_neg (by simp [hm]), if_neg (by simp [hm]), if_neg (by simp [hm]), if_neg (by simp [hm]), dg_cons hg, dg_cons hg, N_cons hg]
      exact ⟨rfl, rfl⟩
    · have hs' : sgnB c = false := by simpa using hs
      have e : N (c :: l) = bareM false [] (c :: l) := by
        rw [N_cons hg, bareM, if_neg (by simp [hg]), if_neg (by simp [hs]), hs']; rfl
      rw [e]
      exact mark_bare (c :: l)
theorem close_N (x : S23) {l : B} (hd : dg l = l) : closeM x (N l) = ((closeM x l).1, N (closeM x l).2) := by
  cases l with
  | nil => rfl
  | cons c l =>
    have hg := dg_head hd
    rw [N_cons hg]
    by_cases hc : c = 41
    · subst hc
      simp only [closeM, if_true]
      show (Sum.inr x, dg (N l)) = _
      rw [dg_N, ← N_dg]
    · simp only [closeM, if_neg hc]
      rw [N_cons hg]
theorem vers_N (nm : B) (op : Int) {l : B} (hd : dg l = l) : versM nm op (N l) = ((versM nm op l).1, N (versM nm op l).2) := by
  obtain ⟨h1, h2⟩ := word_N hd
  unfold versM
  rw [h1, h2]
  split
  · rfl
  · split
    · rfl
    · exact close_N _ (dg_dg _)
theorem oper_N (nm : B) {l : B} (hd : dg l = l) : operM nm (N l) = ((operM nm l).1, N (operM nm l).2) := by
  obtain ⟨h1, h2⟩ := mark_N hd
  unfold operM
  rw [h1, h2]
  split
  · rfl
  · exact vers_N _ _ (dg_dg _)
theorem open_N (nm : B) {l : B} (hd : dg l = l) : openM nm (N l) = ((openM nm l).1, N (openM nm l).2) := by
  cases l with
  | nil => rfl
  | cons c l =>
    have hg := dg_head hd
    rw [N_cons hg]
    by_cases hc : c = 40
    · subst hc
      simp only [openM, if_true]
      show operM nm (dg (N l)) = _
      rw [dg_N, N_dg]
      exact oper_N nm (dg_dg _)
    · simp only [openM, if_neg hc]
      rw [N_cons hg]
theorem rel_N {l : B} (hd : dg l = l) : relM (N l) = ((relM l).1, N (relM l).2) := by
  obtain ⟨h1, h2⟩ := word_N hd
  unfold relM
  rw [h1, h2]
  split
  · rfl
  · split
    · rfl
    · exact open_N _ (dg_dg _)
theorem lists_N (bars : Bool) : ∀ (d : Nat) (x8 : List (List S23)) (x10 : List S23) (l : B), dg l = l → listsM bars d x8 x10 (N l) = ((listsM bars d x8 x10 l).1, (listsM bars d x8 x10 l).2.1, N (listsM bars d x8 x10 l).2.2) := by
  intro d
  induction d with
  | zero => intro x8 x10 l _; rfl
  | succ d ih =>
    intro x8 x10 l hd
    rw [listsM, listsM, rel_N hd]
    cases hR : relM l with
    | mk q r =>
    cases q with
    | inl er => rfl
    | inr x =>
      obtain ⟨f1, f2, f3, f4⟩ := relM_inr hR
      cases r with
      | nil => rfl
      | cons c r =>
        have hg := dg_head f4
        simp only
        rw [N_cons hg]
        simp only
        by_cases h1 : c = 124 ∧ bars = true
        · rw [if_pos h1, if_pos h1]
          obtain ⟨rfl, _⟩ := h1
          show listsM bars d x8 (x10 ++ [x]) (dg (N r)) = _
          rw [dg_N, N_dg]
          exact ih _ _ _ (dg_dg _)
        · rw [if_neg h1, if_neg h1]
          by_cases h2 : c = 44
          · rw [if_pos h2, if_pos h2]
            subst h2
            show listsM bars d (x8 ++ [x10 ++ [x]]) [] (dg (N r)) = _
            rw [dg_N, N_dg]
            exact ih _ _ _ (dg_dg _)
          · rw [if_neg h2, if_neg h2]
            simp only
            rw [N_cons hg]
/-- Without the gaps beside its signs and at its ends a text reads as it did. -/
theorem read_N (bars : Bool) (l : B) : (readM bars (N l)).1 = (readM bars l).1 ∧ (readM bars (N l)).2.1 = (readM bars l).2.1 := by
  unfold readM
  rw [dg_N]
  by_cases h : dg l = []
  · rw [if_pos ((N_nil l).2 h), if_pos h]
    exact ⟨rfl, rfl⟩
  · rw [if_neg (fun q => h ((N_nil l).1 q)), if_neg h]
    have e := lists_N bars ((dg l).length + (N (dg l)).length + 1) [] [] (dg l) (dg_dg l)
    rw [N_dg l, listsM_more bars ((N (dg l)).length + 1) ((dg l).length + (N (dg l)).length + 1) [] [] (N (dg l)) (by omega) (by omega), e,
      listsM_more bars ((dg l).length + (N (dg l)).length + 1) ((dg l).length + 1) [] [] (dg l) (by omega) (by omega)]
    exact ⟨rfl, rfl⟩

/-! ### gaps put in -/
def gapM (g : B) : B → B
  | [] => g
  | c :: l => (if sgnB c = true then g ++ [c] ++ g else [c]) ++ gapM g l
theorem sgn_gap {c : UInt8} (h : sgnB c = true) : gapB c = false := by
  cases hc : gapB c with
  | false => rfl
  | true => have := gap_sgn hc; rw [this] at h; exact absurd h (by decide)
theorem bare_sgn {c : UInt8} (h : sgnB c = true) (b : Bool) (p l : B) : bareM b p (c :: l) = c :: N l := by
  rw [bareM, if_neg (by simp [sgn_gap h]), if_pos (by simp [h]), h]; rfl
theorem bare_gapM (g : B) (hg : ∀ x ∈ g, gapB x = true) (l : B) : ∀ b p, bareM b p (gapM g l) = bareM b p l := by
  induction l with
  | nil => intro b p; exact bare_gaps g hg b p
  | cons c l ih =>
    intro b p
    rw [gapM]
    by_cases hs : sgnB c = true
    · rw [if_pos hs, List.append_assoc, List.append_assoc, bare_pre g hg, List.cons_append, List.nil_append, bare_sgn hs, bare_sgn hs]
      congr 1
      unfold N
      rw [bare_pre g hg, bare_true _ _ []]
      exact ih true []
    · rw [if_neg hs, List.cons_append, List.nil_append, bareM, bareM]
      split
      · exact ih _ _
      · rw [ih]
theorem N_gapM (g : B) (hg : ∀ x ∈ g, gapB x = true) (l : B) : N (g ++ gapM g l) = N l := by
  unfold N
  rw [bare_pre g hg, bare_gapM g hg]
  exact bare_true _ _ _
theorem gapM_len (g l : B) : (gapM g l).length ≤ g.length + l.length * (2 * g.length + 1) := by
  induction l with
  | nil => simp [gapM]
  | cons c l ih =>
    rw [gapM, List.length_append, List.length_cons, Nat.add_mul, Nat.one_mul]
    have : (if sgnB c = true then g ++ [c] ++ g else [c]).length ≤ 2 * g.length + 1 := by
      split
      · simp only [List.length_append, List.length_cons, List.length_nil]; omega
      · simp
    omega
theorem bareM_len (l : B) : ∀ b p, (bareM b p l).length ≤ p.length + l.length := by
  induction l with
  | nil => intro b p; simp [bareM]
  | cons c l ih =>
    intro b p
    rw [bareM]
    split
    · have := ih b (p ++ [c])
      simp only [List.length_append, List.length_cons, List.length_nil] at this ⊢
      omega
    · have := ih (sgnB c) []
      simp only [List.length_nil] at this
      split
      · simp only [List.length_cons]; omega
      · simp only [List.length_append, List.length_cons]; omega
/-- A text with gaps put in, or taken away, beside its signs and at its ends. -/
theorem read_gapM (g : B) (hg : ∀ x ∈ g, gapB x = true) (bars : Bool) (l : B) : (readM bars (g ++ gapM g l)).1 = (readM bars l).1 ∧ (readM bars (g ++ gapM g l)).2.1 = (readM bars l).2.1 := by
  have h1 := read_N bars (g ++ gapM g l)
  rw [N_gapM g hg] at h1
  have h2 := read_N bars l
  exact ⟨h1.1.symm.trans h2.1, h1.2.symm.trans h2.2⟩
end Go.Proofs.YtphabealejpfnaaDoor.Model
