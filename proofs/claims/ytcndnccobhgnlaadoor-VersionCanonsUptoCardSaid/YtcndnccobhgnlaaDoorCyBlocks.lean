/-
  Plain Lean: the blocks by which versions are compared. The program's functions (version).
-/
import Derived.Test.YtcndnccobhgnlaaDoorCyOk
set_option linter.unusedVariables false
set_option linter.unusedSimpArgs false
namespace Go.Proofs.YtcndnccobhgnlaaDoor.Ver
open Go.RowKit Go.Proofs.YtcndnccobhgnlaaDoor.C Go.Proofs.YtcndnccobhgnlaaDoorW.PrintWords Go.Proofs.YtcndnccobhgnlaaDoorW.PrintLast

/-! ### texts as lists of bytes -/
def mkB (l : List UInt8) : ByteArray := ⟨l.toArray⟩
theorem mkB_data (l : List UInt8) : (mkB l).data.toList = l := by simp [mkB]
theorem mkB_toList (l : List UInt8) : (mkB l).toList = l := by rw [Lib.toList_data, mkB_data]
theorem mkB_size (l : List UInt8) : (mkB l).size = l.length := by simp [mkB, ByteArray.size]
theorem ba_ext {a b : ByteArray} (h : a.data.toList = b.data.toList) : a = b := by
  cases a; cases b
  congr
  exact Array.ext' h
theorem mkB_of (s : ByteArray) : s = mkB s.data.toList := ba_ext (mkB_data _).symm
theorem cut_lo (l : List UInt8) (n : Nat) : (mkB l).extract 0 n = mkB (l.take n) := by
  apply ba_ext
  rw [mkB_data, ByteArray.data_extract, Array.toList_extract, mkB_data]
  simp [List.extract]
theorem cut_hi (l : List UInt8) (n : Nat) : (mkB l).extract n (mkB l).size = mkB (l.drop n) := by
  apply ba_ext
  rw [mkB_data, ByteArray.data_extract, Array.toList_extract, mkB_data, mkB_size]
  simp only [List.extract]
  exact List.take_of_length_le (by simp)
theorem bt_head (c : UInt8) (r : List UInt8) : bt (mkB (c :: r)) 0 = (c.toNat : Int) := by
  have h := bt_eq (mkB (c :: r)) 0 (by rw [mkB_size]; simp)
  exact h.trans rfl
theorem tw_take (p : UInt8 → Bool) (l : List UInt8) : l.take (l.takeWhile p).length = l.takeWhile p := by
  induction l with
  | nil => rfl
  | cons c l ih =>
    rw [List.takeWhile_cons]
    split
    · simp [ih]
    · rfl
theorem tw_drop (p : UInt8 → Bool) (l : List UInt8) : l.drop (l.takeWhile p).length = l.dropWhile p := by
  induction l with
  | nil => rfl
  | cons c l ih =>
    rw [List.takeWhile_cons, List.dropWhile_cons]
    split
    · simp [ih]
    · rfl
theorem tw_all (p : UInt8 → Bool) (l : List UInt8) (h : (l.takeWhile p).length = l.length) : l.takeWhile p = l ∧ l.dropWhile p = [] := by
  refine ⟨?_, ?_⟩
  · rw [← tw_take p l, h, List.take_length]
  · rw [← tw_drop p l, h, List.drop_length]
theorem tw_len (p : UInt8 → Bool) (l : List UInt8) : (l.takeWhile p).length + (l.dropWhile p).length = l.length := by
  conv => rhs; rw [← List.takeWhile_append_dropWhile (p := p) (l := l)]
  rw [List.length_append]
def asc (l : List UInt8) : Prop := ∀ c ∈ l, c.toNat < 128
theorem asc_dw {l : List UInt8} (h : asc l) (p : UInt8 → Bool) : asc (l.dropWhile p) := fun c hc => h c ((List.dropWhile_sublist p).subset hc)
theorem asc_tw {l : List UInt8} (h : asc l) (p : UInt8 → Bool) : asc (l.takeWhile p) := fun c hc => h c ((List.takeWhile_sublist p).subset hc)

/-! ### digits, noughts -/
def dgB (c : UInt8) : Bool := dgt (c.toNat : Int)
def ndB (c : UInt8) : Bool := !dgB c
def noB (c : UInt8) : Bool := c == 48
theorem runesIdx_asc (p : Nat → Bool) (s : ByteArray) (ha : asc s.data.toList) : ∀ fuel pos, s.size ≤ pos + fuel → pos ≤ s.size →
    runesIdx p s fuel pos = if ((s.data.toList.drop pos).takeWhile fun c => !p c.toNat).length = (s.data.toList.drop pos).length then -1 else (pos : Int) + ((s.data.toList.drop pos).takeWhile fun c => !p c.toNat).length := by
  intro fuel
  induction fuel with
  | zero =>
    intro pos h0 h1
    have e : s.data.toList.drop pos = [] := List.drop_of_length_le (by simp; omega)
    rw [e]
    rfl
  | succ f ih =>
    intro pos h0 h1
    by_cases hlt : pos < s.size
    · have hd := drop_cons s pos hlt
      have hm : (s[pos]'hlt) ∈ s.data.toList := by
        have : (s[pos]'hlt) ∈ s.data.toList.drop pos := by rw [hd]; exact List.mem_cons_self
        exact List.mem_of_mem_drop this
      have hc := ha _ hm
      have he := decode_ascii s pos hlt hc
      rw [hd, List.takeWhile_cons]
      by_cases hp : p (s[pos]'hlt).toNat = true
      · rw [runesIdx_hit p s f pos hlt (by rw [he]; exact hp)]
        simp [hp]
      · have hp' : p (s[pos]'hlt).toNat = false := by simpa using hp
        rw [runesIdx_miss p s f pos hlt (by rw [he]; exact hp'), he, ih (pos + 1) (by omega) (by omega)]
        simp only [hp', Bool.not_false, if_true, List.length_cons, Nat.add_right_cancel_iff]
        split
        · rfl
        · omega
    · have e : s.data.toList.drop pos = [] := List.drop_of_length_le (by simp; omega)
      rw [e, runesIdx_end p s _ pos hlt]
      rfl
theorem not_not_fun : (fun c : UInt8 => !!dgt (c.toNat : Int)) = dgB := by
  funext c
  unfold dgB
  simp
theorem numLen_asc (l : List UInt8) (ha : asc l) : numLen (mkB l) = (l.takeWhile dgB).length := by
  have h := runesIdx_asc (fun c => !dgt (c : Int)) (mkB l) (by rw [mkB_data]; exact ha) (mkB l).size 0 (by omega) (by omega)
  rw [mkB_data, List.drop_zero, not_not_fun] at h
  unfold numLen
  rw [h]
  split
  · rw [if_pos (by omega), mkB_size]; omega
  · rw [if_neg (by omega)]; omega
theorem index_asc (l : List UInt8) (ha : asc l) : strings_IndexFunc.f (mkB l) = some (if (l.takeWhile ndB).length = l.length then -1 else ((l.takeWhile ndB).length : Int)) := by
  have h := runesIdx_asc (fun c => dgt (c : Int)) (mkB l) (by rw [mkB_data]; exact ha) (mkB l).size 0 (by omega) (by omega)
  rw [mkB_data, List.drop_zero] at h
  unfold strings_IndexFunc.f
  rw [h]
  change some (if (l.takeWhile ndB).length = l.length then -1 else ((0 : Nat) : Int) + ((l.takeWhile ndB).length : Int)) = _
  simp
theorem trim_ev (n : Nat) : ∀ l : List UInt8, l.length ≤ n → Ev (fun k => strings_trimLeftByte.l0 k (mkB l) 48) (mkB (l.dropWhile noB)) := by
  induction n with
  | zero =>
    intro l h
    obtain rfl : l = [] := List.eq_nil_of_length_eq_zero (by omega)
    refine Ev.step (f := fun _ => some (mkB [])) (fun k => ?_) (Ev.now _)
    rw [strings_trimLeftByte.l0, if_neg (by rw [mkB_size]; simp)]
  | succ n ih =>
    intro l h
    cases l with
    | nil =>
      refine Ev.step (f := fun _ => some (mkB [])) (fun k => ?_) (Ev.now _)
      rw [strings_trimLeftByte.l0, if_neg (by rw [mkB_size]; simp)]
    | cons c r =>
      have hs : ((mkB (c :: r)).size : Int) > 0 := by rw [mkB_size]; simp
      have ec : (mkB (c :: r)).extract 1 (mkB (c :: r)).size = mkB r := cut_hi (c :: r) 1
      rw [List.dropWhile_cons]
      by_cases e : c = 48
      · subst e
        refine Ev.step (f := fun k => strings_trimLeftByte.l0 k (mkB r) 48) (fun k => ?_) (ih r (by simpa using h))
        rw [strings_trimLeftByte.l0, if_pos hs, if_pos hs, bt_head, if_pos (by decide), if_pos (by omega), ec]
      · have e1 : noB c = false := by simp [noB, e]
        have e2 : ¬ ((c.toNat : Int) = 48) := by
          intro h2
          apply e
          apply UInt8.toNat_inj.mp
          have : c.toNat = 48 := by omega
          rw [this]; rfl
        refine Ev.step (f := fun _ => some (mkB (c :: r))) (fun k => ?_) (by rw [e1]; exact Ev.now _)
        rw [strings_trimLeftByte.l0, if_pos hs, if_pos hs, bt_head, if_neg e2]
theorem number_ev (l : List UInt8) (ha : asc l) : Ev (fun k => version_number.f k (mkB l)) (mkB ((l.takeWhile dgB).dropWhile noB), mkB (l.dropWhile dgB)) := by
  unfold version_number.f
  rw [numLen_asc l ha, cut_lo, cut_hi, tw_take, tw_drop]
  refine Ev.bind (a := mkB ((l.takeWhile dgB).dropWhile noB)) ?_ (Ev.now _)
  have h1 : (⟨#[48]⟩ : ByteArray).size = 1 ∧ bt ⟨#[48]⟩ 0 < 128 := ⟨rfl, by decide⟩
  have h2 : bt ⟨#[48]⟩ 0 = 48 := by rfl
  unfold strings_TrimLeft.f
  simp only [if_pos h1, h2]
  exact trim_ev _ _ (Nat.le_refl _)

/-! ### the blocks -/
def plainL (l : List UInt8) : List UInt8 := if l.dropWhile noB = [] then [48] else l.dropWhile noB
def blk1 (l : List UInt8) : S40 := ⟨mkB (l.takeWhile ndB), mkB (plainL ((l.dropWhile ndB).takeWhile dgB))⟩
def rest1 (l : List UInt8) : List UInt8 := (l.dropWhile ndB).dropWhile dgB
def blkL : Nat → List UInt8 → List S40
  | 0, _ => []
  | n + 1, l => if l = [] then [] else blk1 l :: blkL n (rest1 l)
theorem rest1_lt {l : List UInt8} (h : l ≠ []) : (rest1 l).length < l.length := by
  cases l with
  | nil => exact absurd rfl h
  | cons c r =>
    unfold rest1
    rw [List.dropWhile_cons]
    have h1 := tw_len ndB r
    cases hc : ndB c with
    | true =>
      simp only [if_true]
      have h2 := tw_len dgB (r.dropWhile ndB)
      simp only [List.length_cons]; omega
    | false =>
      have hd : dgB c = true := by simpa [ndB] using hc
      simp only [Bool.false_eq_true, if_false]
      rw [List.dropWhile_cons, hd]
      simp only [if_true]
      have h2 := tw_len dgB r
      simp only [List.length_cons]; omega
theorem asc_rest {l : List UInt8} (h : asc l) : asc (rest1 l) := asc_dw (asc_dw h _) _
/-- Is this block of no text, and 0? -/
def nought (b : S40) : Bool := b.f0.toList == ([] : List UInt8) && b.f1.toList == ([48] : List UInt8)
def finP (a : List S40) : List S40 := if a = [] then a else if nought (rd_T40 a ((a.length : Int) - 1)) = true then a.take (a.length - 1) else a
theorem end_ev (a : List S40) (ha : a.length ≤ 1099511627776) : Ev (fun k => version_blocks.l0 k (mkB []) a) (finP a) := by
  refine Ev.step (f := fun _ => some (finP a)) (fun k => ?_) (Ev.now _)
  rw [version_blocks.l0, if_pos (mkB_toList [])]
  unfold finP
  cases a with
  | nil => simp
  | cons b r =>
    have hp : (((b :: r).length : Int)) > 0 := by simp only [List.length_cons]; omega
    have hne : ¬ (b :: r = []) := by simp
    have hw : wrap64 (((b :: r).length : Int) - 1) = ((b :: r).length : Int) - 1 := wrap_id (by omega) (by omega)
    rw [if_pos hp, hw, if_pos (by omega), if_pos (by omega), if_neg hne]
    generalize hz : rd_T40 (b :: r) (((b :: r).length : Int) - 1) = z
    change (if nought z = true then _ else _) = _
    split
    · rw [if_pos (by omega)]
      congr 2
      omega
    · rfl
theorem blocks_ev (n : Nat) : ∀ (l : List UInt8) (a : List S40), l.length ≤ n → asc l → a.length + l.length ≤ 1099511627776 →
    Ev (fun k => version_blocks.l0 k (mkB l) a) (finP (a ++ blkL n l)) := by
  induction n with
  | zero =>
    intro l a h ha hb
    obtain rfl : l = [] := List.eq_nil_of_length_eq_zero (by omega)
    rw [blkL, List.append_nil]
    exact end_ev a (by omega)
  | succ n ih =>
    intro l a h ha hb
    by_cases hl : l = []
    · subst hl
      rw [blkL, if_pos rfl, List.append_nil]
      exact end_ev a (by omega)
    · rw [blkL, if_neg hl]
      have hlt := rest1_lt hl
      have hpos : 0 < l.length := List.length_pos_iff.mpr hl
      have hstep : ∀ k, version_blocks.l0 (k + 1) (mkB l) a = (version_number.f k (mkB (l.dropWhile ndB))).bind fun bt => version_blocks.l0 k bt.2 (a ++ [(⟨mkB (l.takeWhile ndB), if bt.1.toList = [] then mkB [48] else bt.1⟩ : S40)]) := by
        intro k
        rw [version_blocks.l0, if_neg (by rw [mkB_toList]; exact hl), index_asc l ha, Option.bind_some]
        have hla : a.length < 4398046511104 := by omega
        by_cases hf : (l.takeWhile ndB).length = l.length
        · obtain ⟨t1, t2⟩ := tw_all ndB l hf
          rw [if_pos hf, if_pos (by decide), if_pos (by omega), if_pos (by omega), t1, t2]
          have e1 : (mkB l).extract (((mkB l).size : Int)).toNat (mkB l).size = mkB [] := by
            have := cut_hi l (mkB l).size
            rw [mkB_size, List.drop_length] at this
            simpa [mkB_size] using this
          have e2 : (mkB l).extract 0 (((mkB l).size : Int)).toNat = mkB l := by
            have := cut_lo l (mkB l).size
            rw [mkB_size, List.take_length] at this
            simpa [mkB_size] using this
          rw [e1, e2]
          congr 1
          funext bt
          by_cases hq : bt.1.toList = []
          · simp only [if_pos hq, if_pos hla]; rfl
          · simp only [if_neg hq, if_pos hla]
        · have hle := tw_len ndB l
          rw [if_neg hf, if_neg (by omega), if_pos (by omega), if_pos (by rw [mkB_size]; omega)]
          have e1 : (mkB l).extract (((l.takeWhile ndB).length : Int)).toNat (mkB l).size = mkB (l.dropWhile ndB) := by
            rw [Int.toNat_natCast, cut_hi, tw_drop]
          have e2 : (mkB l).extract 0 (((l.takeWhile ndB).length : Int)).toNat = mkB (l.takeWhile ndB) := by
            rw [Int.toNat_natCast, cut_lo, tw_take]
          rw [e1, e2]
          congr 1
          funext bt
          by_cases hq : bt.1.toList = []
          · simp only [if_pos hq, if_pos hla]; rfl
          · simp only [if_neg hq, if_pos hla]
      refine Ev.step hstep ?_
      refine Ev.bind (number_ev _ (asc_dw ha _)) ?_
      have eb : (if (mkB (((l.dropWhile ndB).takeWhile dgB).dropWhile noB)).toList = [] then mkB [48] else mkB (((l.dropWhile ndB).takeWhile dgB).dropWhile noB)) = mkB (plainL ((l.dropWhile ndB).takeWhile dgB)) := by
        unfold plainL
        rw [mkB_toList]
        split <;> rfl
      simp only [eb]
      have := ih (rest1 l) (a ++ [blk1 l]) (by omega) (asc_rest ha) (by rw [List.length_append, List.length_singleton]; omega)
      rw [List.append_assoc, List.singleton_append] at this
      exact this
def blocksM (s : ByteArray) : List S40 := finP (blkL s.size s.data.toList)
theorem version_blocks_ev (s : ByteArray) (ha : asc s.data.toList) (hs : s.size ≤ 1099511627776) : Ev (fun k => version_blocks.f k s) (blocksM s) := by
  have h := blocks_ev s.size s.data.toList [] (by simp) ha (by simpa using hs)
  rw [← mkB_of s] at h
  exact h

/-! ### the key -/
theorem asc_of (p : Int → Bool) (hp : ∀ c : Int, 128 ≤ c → p c = false) (s : ByteArray) (h : allFrom p s s.size 0 = true) : asc s.data.toList := by
  intro c hc
  obtain ⟨i, hi, rfl⟩ := List.getElem_of_mem hc
  have hi' : i < s.size := by simpa using hi
  have h1 := (allFrom_iff p s s.size 0).mp h i (by omega) (by omega)
  rw [bt_eq s i hi'] at h1
  apply Classical.byContradiction
  intro h2
  have e : s.data.toList[i] = s[i]'hi' := rfl
  rw [e] at h2
  rw [hp _ (by omega)] at h1
  cases h1
theorem parts_asc (s : ByteArray) (h : okS s = true) : asc (epochS s).data.toList ∧ asc (upS s).data.toList ∧ asc (revS s).data.toList := by
  rw [okS_eq] at h
  simp only [Bool.and_eq_true] at h
  obtain ⟨_, h1, h2, h3⟩ := h
  exact ⟨asc_of _ dgt_high _ h1, asc_of _ (refUp_high _) _ h2, asc_of _ refRev_high _ h3⟩
theorem parts_le (s : ByteArray) : (epochS s).size ≤ s.size ∧ (upS s).size ≤ s.size ∧ (revS s).size ≤ s.size := by
  have h0 := behind_le s
  have h1 := sub_le s (colonI s)
  have h2 := sub_le (behindS s) (minusI s)
  unfold epochS upS revS
  omega
def keyM (s : ByteArray) : List (List S40) × Int := if okS s = true then ([blocksM (epochS s), blocksM (upS s), blocksM (revS s)], 0) else ([], 200)
theorem key_ev (s : ByteArray) (hs : s.size ≤ 1099511627776) : Ev (fun k => version_Key.f k s) (keyM s) := by
  unfold version_Key.f keyM
  obtain ⟨l1, l2, l3⟩ := parts_le s
  refine Ev.bind (parted_ev s (by omega)) ?_
  simp only
  by_cases h : okS s = true
  · obtain ⟨a1, a2, a3⟩ := parts_asc s h
    rw [if_pos h]
    simp only [if_pos h]
    refine Ev.bind (version_blocks_ev _ a1 (by omega)) ?_
    refine Ev.bind (version_blocks_ev _ a2 (by omega)) ?_
    refine Ev.bind (version_blocks_ev _ a3 (by omega)) ?_
    exact Ev.now _
  · rw [if_neg h]
    simp only [if_neg h]
    exact Ev.now _
end Go.Proofs.YtcndnccobhgnlaaDoor.Ver
