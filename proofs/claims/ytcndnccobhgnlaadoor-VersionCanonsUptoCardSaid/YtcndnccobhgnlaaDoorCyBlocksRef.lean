/-
  Plain Lean: the reference's blocks and keys (depotref20) are the program's.
-/
import Derived.Test.YtcndnccobhgnlaaDoorCyBlocks
import Derived.Test.YtcndnccobhgnlaaDoorCyLegal
set_option linter.unusedVariables false
set_option linter.unusedSimpArgs false
namespace Go.Proofs.YtcndnccobhgnlaaDoor.Ver
open Go.RowKit Go.Proofs.YtcndnccobhgnlaaDoor.C Go.Proofs.YtcndnccobhgnlaaDoorW.PrintWords Go.Proofs.YtcndnccobhgnlaaDoorW.PrintLast

theorem at_i (l : List UInt8) (i : Nat) (h : i < l.length) : ∃ c, l.drop i = c :: l.drop (i + 1) ∧ bt (mkB l) i = (c.toNat : Int) := by
  have hs : i < (mkB l).size := by rw [mkB_size]; exact h
  refine ⟨(mkB l)[i]'hs, ?_, bt_eq _ i hs⟩
  have := drop_cons (mkB l) i hs
  rwa [mkB_data] at this
theorem cut_mid (l : List UInt8) (a b : Nat) : (mkB l).extract a b = mkB ((l.drop a).take (b - a)) := by
  apply ba_ext
  rw [mkB_data, ByteArray.data_extract, Array.toList_extract, mkB_data]
theorem not48 {c : UInt8} (h : ¬ c = 48) : ¬ ((c.toNat : Int) = 48) := by
  intro h2
  apply h
  apply UInt8.toNat_inj.mp
  have : c.toNat = 48 := by omega
  rw [this]; rfl
theorem plain_ev (l : List UInt8) (hs : l.length ≤ 1099511627776) : ∀ d i, i + d = l.length → Ev (fun k => depotref20_plain.l0 k (mkB l) (i : Int)) (mkB (plainL (l.drop i))) := by
  intro d
  induction d with
  | zero =>
    intro i hi
    refine Ev.step (f := fun _ => some (mkB (plainL (l.drop i)))) (fun k => ?_) (Ev.now _)
    have e : l.drop i = [] := List.drop_of_length_le (by omega)
    rw [depotref20_plain.l0, mkB_size, if_neg (by omega), if_pos (by omega), e]
    rfl
  | succ d ih =>
    intro i hi
    obtain ⟨c, hd, hb⟩ := at_i l i (by omega)
    by_cases e : c = 48
    · subst e
      have ep : plainL (l.drop i) = plainL (l.drop (i + 1)) := by
        unfold plainL
        rw [hd, List.dropWhile_cons]
        simp [noB]
      rw [ep]
      refine Ev.step (f := fun k => depotref20_plain.l0 k (mkB l) ((i + 1 : Nat) : Int)) (fun k => ?_) (ih (i + 1) (by omega))
      rw [depotref20_plain.l0, mkB_size, if_pos (by omega), if_pos (by omega), hb, if_pos (by decide), wrap_id (by omega) (by omega)]
      rfl
    · have ep : plainL (l.drop i) = l.drop i := by
        unfold plainL
        rw [hd, List.dropWhile_cons]
        simp [noB, e]
      rw [ep]
      refine Ev.step (f := fun _ => some (mkB (l.drop i))) (fun k => ?_) (Ev.now _)
      rw [depotref20_plain.l0, if_pos (by rw [mkB_size]; omega), if_pos (by omega), hb, if_neg (not48 e), if_neg (by rw [mkB_size]; omega), if_pos (by rw [mkB_size]; omega), Int.toNat_natCast, cut_hi]
theorem plainf_ev (l : List UInt8) (hs : l.length ≤ 1099511627776) : Ev (fun k => depotref20_plain.f k (mkB l)) (mkB (plainL l)) := by
  have := plain_ev l hs l.length 0 (by omega)
  rw [List.drop_zero] at this
  exact this

theorem ref_text (l : List UInt8) (hs : l.length ≤ 1099511627776) (a : List S40) (fr : Int) (R : List S40) : ∀ d i, i + d = l.length →
    Ev (fun k => depotref20_Blocks.j2 k (mkB l) a ((i + ((l.drop i).takeWhile ndB).length : Nat) : Int) fr) R → Ev (fun k => depotref20_Blocks.l1 k (mkB l) a (i : Int) fr) R := by
  intro d
  induction d with
  | zero =>
    intro i hi H
    have e : l.drop i = [] := List.drop_of_length_le (by omega)
    rw [e] at H
    refine Ev.step (f := fun k => depotref20_Blocks.j2 k (mkB l) a (i : Int) fr) (fun k => ?_) H
    rw [depotref20_Blocks.l1, mkB_size, if_neg (by omega)]
  | succ d ih =>
    intro i hi H
    obtain ⟨c, hd, hb⟩ := at_i l i (by omega)
    rw [hd, List.takeWhile_cons] at H
    have hstep : ∀ k, depotref20_Blocks.l1 (k + 1) (mkB l) a (i : Int) fr = if dgB c = true then depotref20_Blocks.j2 k (mkB l) a (i : Int) fr else depotref20_Blocks.l1 k (mkB l) a ((i + 1 : Nat) : Int) fr := by
      intro k
      rw [depotref20_Blocks.l1, mkB_size, if_pos (by omega), if_pos (by omega), hb, digit_f, Option.bind_some, wrap_id (by omega) (by omega)]
      rfl
    refine Ev.step hstep ?_
    by_cases hc : dgB c = true
    · simp only [if_pos hc]
      have hn : ndB c = false := by simp [ndB, hc]
      rw [hn] at H
      exact H
    · simp only [if_neg hc]
      have hn : ndB c = true := by simp [ndB, hc]
      rw [hn] at H
      refine ih (i + 1) (by omega) ?_
      have e : i + 1 + ((l.drop (i + 1)).takeWhile ndB).length = i + (c :: (l.drop (i + 1)).takeWhile ndB).length := by rw [List.length_cons]; omega
      rw [e]
      exact H
theorem ref_number (l : List UInt8) (hs : l.length ≤ 1099511627776) (a : List S40) (ha : a.length < 4398046511104) (fr : Nat) (t : ByteArray) (R : List S40) : ∀ d i, i + d = l.length → fr ≤ i →
    Ev (fun k => depotref20_Blocks.l0 k (mkB l) (a ++ [⟨t, mkB (plainL ((l.drop fr).take (i + ((l.drop i).takeWhile dgB).length - fr)))⟩]) ((i + ((l.drop i).takeWhile dgB).length : Nat) : Int)) R →
    Ev (fun k => depotref20_Blocks.l2 k (mkB l) a (i : Int) (fr : Int) t) R := by
  intro d
  induction d with
  | zero =>
    intro i hi hf H
    have e : l.drop i = [] := List.drop_of_length_le (by omega)
    rw [e] at H
    have hstep : ∀ k, depotref20_Blocks.l2 (k + 1) (mkB l) a (i : Int) (fr : Int) t = (depotref20_plain.f k (mkB ((l.drop fr).take (i - fr)))).bind fun p => depotref20_Blocks.l0 k (mkB l) (a ++ [⟨t, p⟩]) (i : Int) := by
      intro k
      rw [depotref20_Blocks.l2, mkB_size, if_neg (by omega), if_pos (by omega), if_pos (by omega), if_pos (by omega), Int.toNat_natCast, Int.toNat_natCast, cut_mid]
      congr 1
      funext p
      rw [if_pos ha]
    refine Ev.step hstep ?_
    exact Ev.bind (plainf_ev _ (by rw [List.length_take, List.length_drop]; omega)) H
  | succ d ih =>
    intro i hi hf H
    obtain ⟨c, hd, hb⟩ := at_i l i (by omega)
    rw [hd, List.takeWhile_cons] at H
    have hstep : ∀ k, depotref20_Blocks.l2 (k + 1) (mkB l) a (i : Int) (fr : Int) t = if dgB c = true then depotref20_Blocks.l2 k (mkB l) a ((i + 1 : Nat) : Int) (fr : Int) t else (depotref20_plain.f k (mkB ((l.drop fr).take (i - fr)))).bind fun p => depotref20_Blocks.l0 k (mkB l) (a ++ [⟨t, p⟩]) (i : Int) := by
      intro k
      rw [depotref20_Blocks.l2, mkB_size, if_pos (by omega), if_pos (by omega), hb, digit_f, Option.bind_some, wrap_id (by omega) (by omega)]
      by_cases hc : dgB c = true
      · rw [if_pos hc, if_pos (show dgt (c.toNat : Int) = true from hc)]
        rfl
      · rw [if_neg hc, if_neg (show ¬ dgt (c.toNat : Int) = true from hc), if_pos (by omega), if_pos (by omega), if_pos (by omega), Int.toNat_natCast, Int.toNat_natCast, cut_mid]
        congr 1
        funext p
        rw [if_pos ha]
    refine Ev.step hstep ?_
    by_cases hc : dgB c = true
    · simp only [if_pos hc]
      rw [hc] at H
      refine ih (i + 1) (by omega) (by omega) ?_
      have e : i + 1 + ((l.drop (i + 1)).takeWhile dgB).length = i + (c :: (l.drop (i + 1)).takeWhile dgB).length := by rw [List.length_cons]; omega
      rw [e]
      exact H
    · simp only [if_neg hc]
      have hc' : dgB c = false := by simpa using hc
      rw [hc'] at H
      exact Ev.bind (plainf_ev _ (by rw [List.length_take, List.length_drop]; omega)) H
theorem ref_blocks (l : List UInt8) (hs : l.length ≤ 1099511627776) (R : List S40) (n : Nat) : ∀ (i : Nat) (a : List S40), i ≤ l.length → l.length ≤ i + n → a.length + (l.length - i) ≤ 1099511627776 →
    Ev (fun k => depotref20_Blocks.l3 k (a ++ blkL n (l.drop i))) R → Ev (fun k => depotref20_Blocks.l0 k (mkB l) a (i : Int)) R := by
  induction n with
  | zero =>
    intro i a h0 h1 hb H
    rw [blkL, List.append_nil] at H
    refine Ev.step (f := fun k => depotref20_Blocks.l3 k a) (fun k => ?_) H
    rw [depotref20_Blocks.l0, mkB_size, if_neg (by omega)]
  | succ n ih =>
    intro i a h0 h1 hb H
    by_cases hi : i < l.length
    · have hne : l.drop i ≠ [] := by
        intro e
        have := congrArg List.length e
        rw [List.length_drop] at this
        simp only [List.length_nil] at this
        omega
      rw [blkL, if_neg hne] at H
      refine Ev.step (f := fun k => depotref20_Blocks.l1 k (mkB l) a (i : Int) (i : Int)) (fun k => ?_) ?_
      · rw [depotref20_Blocks.l0, mkB_size, if_pos (by omega)]
      refine ref_text l hs a (i : Int) R (l.length - i) i (by omega) ?_
      have t1 := tw_len ndB (l.drop i)
      have t2 := tw_drop ndB (l.drop i)
      have t3 := tw_take ndB (l.drop i)
      rw [List.drop_drop] at t2
      rw [List.length_drop] at t1
      generalize hm : i + ((l.drop i).takeWhile ndB).length = m at t2 ⊢
      refine Ev.step (f := fun k => depotref20_Blocks.l2 k (mkB l) a (m : Int) (m : Int) (mkB ((l.drop i).takeWhile ndB))) (fun k => ?_) ?_
      · rw [depotref20_Blocks.j2, mkB_size, if_pos (by omega), if_pos (by omega), if_pos (by omega), Int.toNat_natCast, Int.toNat_natCast, cut_mid]
        have : m - i = ((l.drop i).takeWhile ndB).length := by omega
        rw [this, t3]
      refine ref_number l hs a (by omega) m _ R (l.length - m) m (by omega) (Nat.le_refl _) ?_
      have u1 := tw_len dgB (l.drop m)
      have u2 := tw_drop dgB (l.drop m)
      have u3 := tw_take dgB (l.drop m)
      rw [List.drop_drop] at u2
      rw [List.length_drop] at u1
      have u4 : m + ((l.drop m).takeWhile dgB).length - m = ((l.drop m).takeWhile dgB).length := by omega
      rw [u4, u3]
      have hr : rest1 (l.drop i) = l.drop (m + ((l.drop m).takeWhile dgB).length) := by
        unfold rest1
        rw [← t2, u2]
      have hlt := rest1_lt hne
      rw [hr, List.length_drop, List.length_drop] at hlt
      refine ih _ _ (by omega) (by omega) (by rw [List.length_append, List.length_singleton]; omega) ?_
      rw [List.append_assoc, List.singleton_append, ← hr, t2]
      exact H
    · have e : l.drop i = [] := List.drop_of_length_le (by omega)
      rw [e, blkL, if_pos rfl, List.append_nil] at H
      refine Ev.step (f := fun k => depotref20_Blocks.l3 k a) (fun k => ?_) H
      rw [depotref20_Blocks.l0, mkB_size, if_neg (by omega)]

/-! ### the blocks at the end -/
theorem dw_head (p : UInt8 → Bool) (l : List UInt8) {c : UInt8} {r : List UInt8} (h : l.dropWhile p = c :: r) : p c = false := by
  induction l with
  | nil => cases h
  | cons d l ih =>
    rw [List.dropWhile_cons] at h
    split at h
    · exact ih h
    · rename_i hd
      injection h with h1 h2
      subst h1
      simpa using hd
theorem blk_text (n : Nat) : ∀ l : List UInt8, (∀ c r, l = c :: r → ndB c = true) → ∀ b ∈ blkL n l, nought b = false := by
  induction n with
  | zero => intro l h b hb; cases hb
  | succ n ih =>
    intro l h b hb
    rw [blkL] at hb
    split at hb
    · cases hb
    · rename_i hl
      rcases List.mem_cons.mp hb with rfl | hb
      · cases l with
        | nil => exact absurd rfl hl
        | cons c r =>
          have hc := h c r rfl
          unfold nought blk1
          rw [mkB_toList, List.takeWhile_cons, hc]
          rfl
      · refine ih (rest1 l) (fun c r e => ?_) b hb
        have := dw_head dgB _ e
        simp [ndB, this]
theorem blk_tail (n : Nat) (l : List UInt8) : ∀ b ∈ (blkL n l).tail, nought b = false := by
  cases n with
  | zero => intro b hb; cases hb
  | succ n =>
    rw [blkL]
    split
    · intro b hb; cases hb
    · rw [List.tail_cons]
      refine blk_text n _ (fun c r e => ?_)
      have := dw_head dgB _ e
      simp [ndB, this]
theorem l3_step (a : List S40) (ha : a.length ≤ 1099511627776) (hp : a ≠ []) : ∀ k, depotref20_Blocks.l3 (k + 1) a = if nought (rd_T40 a ((a.length : Int) - 1)) = true then depotref20_Blocks.l3 k (a.take (a.length - 1)) else some a := by
  intro k
  have hpos : 0 < a.length := List.length_pos_iff.mpr hp
  rw [depotref20_Blocks.l3, if_pos (by omega), wrap_id (by omega) (by omega), if_pos (by omega), if_pos (by omega)]
  generalize rd_T40 a ((a.length : Int) - 1) = z
  have e1 : ((a.length : Int) - 1).toNat = a.length - 1 := by omega
  by_cases h1 : z.f0.toList = ([] : List UInt8)
  · by_cases h2 : z.f1.toList = ([48] : List UInt8)
    · have hn : nought z = true := by simp [nought, h1, h2]
      rw [if_pos h1, if_pos h2, if_pos (by omega), if_pos hn, e1]
    · have hn : ¬ nought z = true := by simp [nought, h1, h2]
      rw [if_pos h1, if_neg h2, if_neg hn]
  · have hn : ¬ nought z = true := by
      intro h
      unfold nought at h
      simp only [Bool.and_eq_true, beq_iff_eq] at h
      exact h1 h.1
    rw [if_neg h1, if_neg hn]
theorem l3_ev (a : List S40) (ha : a.length ≤ 1099511627776) (ht : ∀ b ∈ a.tail, nought b = false) : Ev (fun k => depotref20_Blocks.l3 k a) (finP a) := by
  have h0 : Ev (fun k => depotref20_Blocks.l3 k []) ([] : List S40) := by
    refine Ev.step (f := fun _ => some []) (fun k => ?_) (Ev.now _)
    rw [depotref20_Blocks.l3, if_neg (by simp)]
  match a, ha, ht with
  | [], _, _ => exact h0
  | [b], ha, ht =>
    refine Ev.step (l3_step [b] ha (by simp)) ?_
    unfold finP
    rw [if_neg (by simp)]
    split
    · exact h0
    · exact Ev.now _
  | b :: c :: r, ha, ht =>
    refine Ev.step (l3_step _ ha (by simp)) ?_
    have hm : rd_T40 (b :: c :: r) (((b :: c :: r).length : Int) - 1) ∈ (b :: c :: r).tail := by
      unfold rd_T40
      have e : (((b :: c :: r).length : Int) - 1).toNat = r.length + 1 := by simp only [List.length_cons]; omega
      rw [e, List.getD_cons_succ, List.tail_cons]
      have hl : r.length < (c :: r).length := by simp
      rw [List.getD_eq_getElem?_getD, List.getElem?_eq_getElem hl]
      exact List.getElem_mem hl
    have hn := ht _ hm
    unfold finP
    rw [if_neg (by simp), hn]
    simp only [Bool.false_eq_true, if_false]
    exact Ev.now _
theorem blk_len (n : Nat) : ∀ l : List UInt8, (blkL n l).length ≤ l.length := by
  induction n with
  | zero => intro l; exact Nat.zero_le _
  | succ n ih =>
    intro l
    rw [blkL]
    split
    · exact Nat.zero_le _
    · rename_i hl
      have h1 := rest1_lt hl
      have h2 := ih (rest1 l)
      rw [List.length_cons]
      omega
theorem ref_blocks_ev (s : ByteArray) (hs : s.size ≤ 1099511627776) : Ev (fun k => depotref20_Blocks.f k s) (blocksM s) := by
  have hl : s.data.toList.length ≤ 1099511627776 := by simpa using hs
  have hsz : s.data.toList.length = s.size := by simp
  have h := ref_blocks s.data.toList hl (blocksM s) s.size 0 [] (Nat.zero_le _) (by omega) (by simp; omega) (by
    rw [List.drop_zero, List.nil_append]
    exact l3_ev _ (Nat.le_trans (blk_len _ _) hl) (blk_tail _ _))
  rw [← mkB_of s] at h
  exact h
theorem fin_len (a : List S40) : (finP a).length ≤ a.length := by
  unfold finP
  split
  · exact Nat.le_refl _
  · split
    · rw [List.length_take]; omega
    · exact Nat.le_refl _
theorem blocksM_len (s : ByteArray) : (blocksM s).length ≤ s.size := by
  have h1 := fin_len (blkL s.size s.data.toList)
  have h2 := blk_len s.size s.data.toList
  have hsz : s.data.toList.length = s.size := by simp
  unfold blocksM
  omega
theorem ref_key_ev (s : ByteArray) (hs : s.size ≤ 1099511627776) : Ev (fun k => depotref20_Key.f k s) (keyM s) := by
  unfold depotref20_Key.f keyM
  obtain ⟨l1, l2, l3⟩ := parts_le s
  refine Ev.bind (legal_ev s (by omega)) ?_
  by_cases h : okS s = true
  · simp only [if_pos h]
    refine Ev.bind (refparted_ev s (by omega)) ?_
    simp only
    refine Ev.bind (ref_blocks_ev _ (by omega)) ?_
    refine Ev.bind (ref_blocks_ev _ (by omega)) ?_
    refine Ev.bind (ref_blocks_ev _ (by omega)) ?_
    exact Ev.now _
  · simp only [if_neg h]
    exact Ev.now _
end Go.Proofs.YtcndnccobhgnlaaDoor.Ver
