/-
  VersionCanons (P20.4) as plain Lean: the program's canonical versions are the reference's, for every text of at most 2^20 bytes.
-/
import Derived.Test.YtcndnccobhgnlaaDoorCyBlocksRef
set_option linter.unusedVariables false
set_option linter.unusedSimpArgs false
namespace Go.Proofs.YtcndnccobhgnlaaDoor.Ver
open Go.RowKit Go.Proofs.YtcndnccobhgnlaaDoor.C Go.Proofs.YtcndnccobhgnlaaDoorW.PrintWords Go.Proofs.YtcndnccobhgnlaaDoorW.PrintLast

abbrev cat := version_told.cat
theorem data_app (a b : ByteArray) : (a ++ b).data.toList = a.data.toList ++ b.data.toList := by
  rw [ByteArray.data_append, Array.toList_append]
def zeroT : ByteArray := ⟨#[48]⟩
def dashT : ByteArray := ⟨#[45]⟩
def colT : ByteArray := ⟨#[58]⟩
def toldP (l : List S40) : ByteArray := if cat l = [] then zeroT else mkB (cat l)
theorem told_f (l : List S40) (h : (cat l).length ≤ 4194304) : version_told.f l = some (toldP l) := by
  unfold version_told.f toldP
  rw [if_pos (by have : (version_told.cat l).length ≤ 4194304 := h; omega)]
  rfl
theorem told_size (l : List S40) (h : (cat l).length ≤ 4194304) : (toldP l).size ≤ 4194305 := by
  unfold toldP
  split
  · exact (by decide : zeroT.size ≤ 4194305)
  · rw [mkB_size]; omega
theorem contains_eq (t : ByteArray) (c : UInt8) : strings_Contains.f t ⟨#[c]⟩ = some (decide (Lib.indexByte t.data.toList c ≥ 0)) := by
  rfl

/-! ### what comes out -/
def tailM (E R : List S40) (up : ByteArray) (colon m : Bool) : ByteArray :=
  if (colon || decide (0 < E.length)) = true then (toldP E ++ colT) ++ (if m = true then up ++ (dashT ++ toldP R) else up) else (if m = true then up ++ (dashT ++ toldP R) else up)
def canonL (E U R : List S40) : ByteArray :=
  tailM E R (toldP U) (decide (Lib.indexByte (toldP U).data.toList 58 ≥ 0)) (decide (Lib.indexByte (toldP U).data.toList 45 ≥ 0) || decide (0 < R.length))
theorem canon_j0 (E U R : List S40) (up : ByteArray) (colon m : Bool) (hE : (cat E).length ≤ 4194304) (hR : (cat R).length ≤ 4194304) (hu : up.size ≤ 4194305) (k : Nat) :
    version_Canon.j0 (k + 1) [E, U, R] up colon m = some (tailM E R up colon m, 0) := by
  have z1 := told_size E hE
  have z2 := told_size R hR
  have d1 : (⟨#[45]⟩ : ByteArray).size = 1 := rfl
  have d2 : (⟨#[58]⟩ : ByteArray).size = 1 := rfl
  have s1 : 1 + (toldP R).size ≤ 9223372036854775807 := by omega
  have s2 : up.size + ((⟨#[45]⟩ : ByteArray) ++ toldP R).size ≤ 9223372036854775807 := by rw [ByteArray.size_append, d1]; omega
  have s3 : (toldP E).size + 1 ≤ 9223372036854775807 := by omega
  have s4 : (toldP E ++ (⟨#[58]⟩ : ByteArray)).size + (up ++ ((⟨#[45]⟩ : ByteArray) ++ toldP R)).size ≤ 9223372036854775807 := by rw [ByteArray.size_append, ByteArray.size_append, ByteArray.size_append, d1, d2]; omega
  have s5 : (toldP E ++ (⟨#[58]⟩ : ByteArray)).size + up.size ≤ 9223372036854775807 := by rw [ByteArray.size_append, d2]; omega
  have l3 : (2 : Int) < (([E, U, R] : List (List S40)).length : Int) := by simp
  have l1 : (0 : Int) < (([E, U, R] : List (List S40)).length : Int) := by simp
  have r0 : rd_L7 [E, U, R] 0 = E := rfl
  have r2 : rd_L7 [E, U, R] 2 = R := rfl
  rw [version_Canon.j0, r0, r2, told_f E hE, told_f R hR]
  simp only [Option.bind_some, if_pos l3, if_pos l1, if_pos s1, if_pos s2, if_pos s3, if_pos s4, if_pos s5]
  unfold tailM
  cases m with
  | true =>
    cases colon with
    | true => rfl
    | false =>
      by_cases h : 0 < E.length
      · have h' : ((E.length : Int)) > 0 := by omega
        simp only [if_pos h', decide_eq_true h, Bool.or_true, if_true, Bool.false_eq_true, if_false]
        rfl
      · have h' : ¬ ((E.length : Int)) > 0 := by omega
        simp only [if_neg h', decide_eq_false h, Bool.or_false, if_true, Bool.false_eq_true, if_false]
        rfl
  | false =>
    cases colon with
    | true => rfl
    | false =>
      by_cases h : 0 < E.length
      · have h' : ((E.length : Int)) > 0 := by omega
        simp only [if_pos h', decide_eq_true h, Bool.or_true, if_true, Bool.false_eq_true, if_false]
        rfl
      · have h' : ¬ ((E.length : Int)) > 0 := by omega
        simp only [if_neg h', decide_eq_false h, Bool.or_false, Bool.false_eq_true, if_false]
def canonM (s : ByteArray) : ByteArray × Int := if okS s = true then (canonL (blocksM (epochS s)) (blocksM (upS s)) (blocksM (revS s)), 0) else (⟨#[]⟩, 200)

/-! ### sizes; numbers are never empty -/
theorem plain_ne (l : List UInt8) : plainL l ≠ [] := by
  unfold plainL
  split
  · simp
  · assumption
theorem dw_len (p : UInt8 → Bool) (l : List UInt8) : (l.dropWhile p).length ≤ l.length := by
  have := tw_len p l
  omega
theorem plain_len (l : List UInt8) : (plainL l).length ≤ l.length + 1 := by
  unfold plainL
  have := dw_len noB l
  split
  · simp
  · omega
theorem plain_len' (l : List UInt8) (h : l ≠ []) : (plainL l).length ≤ l.length := by
  unfold plainL
  have := dw_len noB l
  have : 0 < l.length := List.length_pos_iff.mpr h
  split
  · simp; omega
  · omega
theorem cat_cons (b : S40) (l : List S40) : cat (b :: l) = (b.f0.data.toList ++ b.f1.data.toList) ++ cat l := by
  unfold cat version_told.cat
  rw [List.map_cons, List.flatten_cons]
theorem blk_cat (n : Nat) : ∀ l : List UInt8, (cat (blkL n l)).length ≤ 2 * l.length := by
  induction n with
  | zero => intro l; exact Nat.zero_le _
  | succ n ih =>
    intro l
    rw [blkL]
    split
    · exact Nat.zero_le _
    · rename_i hl
      have h1 := rest1_lt hl
      have h2 := ih (rest1 l)
      have h3 := tw_len ndB l
      have h4 := tw_len dgB (l.dropWhile ndB)
      have h5 := plain_len ((l.dropWhile ndB).takeWhile dgB)
      rw [cat_cons, List.length_append, List.length_append]
      unfold blk1
      simp only [mkB_data]
      unfold rest1 at h1 h2 ⊢
      by_cases hd : (l.dropWhile ndB).takeWhile dgB = []
      · rw [hd] at h4 h5 ⊢
        simp only [List.length_nil] at h4 h5
        omega
      · have h6 := plain_len' _ hd
        omega
theorem fin_cat (a : List S40) : (cat (finP a)).length ≤ (cat a).length := by
  unfold finP
  split
  · exact Nat.le_refl _
  · split
    · exact version_told.cat_le a _
    · exact Nat.le_refl _
theorem blocksM_cat (s : ByteArray) : (cat (blocksM s)).length ≤ 2 * s.size := by
  have h1 := fin_cat (blkL s.size s.data.toList)
  have h2 := blk_cat s.size s.data.toList
  have hsz : s.data.toList.length = s.size := by simp
  unfold blocksM
  omega
theorem blk_num (n : Nat) : ∀ l : List UInt8, ∀ b ∈ blkL n l, b.f1.data.toList ≠ [] := by
  induction n with
  | zero => intro l b hb; cases hb
  | succ n ih =>
    intro l b hb
    rw [blkL] at hb
    split at hb
    · cases hb
    · rcases List.mem_cons.mp hb with rfl | hb
      · unfold blk1
        rw [mkB_data]
        exact plain_ne _
      · exact ih _ b hb
theorem fin_mem (a : List S40) : ∀ b ∈ finP a, b ∈ a := by
  unfold finP
  split
  · exact fun _ h => h
  · split
    · exact fun b h => List.mem_of_mem_take h
    · exact fun _ h => h
theorem blocks_empty (s : ByteArray) : cat (blocksM s) = [] ↔ ¬ 0 < (blocksM s).length := by
  have h : ∀ b ∈ blocksM s, b.f1.data.toList ≠ [] := fun b hb => blk_num _ _ b (fin_mem _ b hb)
  generalize blocksM s = a at h
  cases a with
  | nil => simp [cat, version_told.cat]
  | cons b r =>
    rw [cat_cons]
    have := h b List.mem_cons_self
    simp [this]

theorem canon_ev (s : ByteArray) (hs : s.size ≤ 1048576) : Ev (fun k => version_Canon.f k s) (canonM s) := by
  unfold version_Canon.f canonM
  obtain ⟨p1, p2, p3⟩ := parts_le s
  have c1 := blocksM_cat (epochS s)
  have c2 := blocksM_cat (upS s)
  have c3 := blocksM_cat (revS s)
  refine Ev.bind (key_ev s (by omega)) ?_
  unfold keyM
  by_cases h : okS s = true
  · simp only [if_pos h]
    generalize blocksM (epochS s) = E at c1 ⊢
    generalize blocksM (upS s) = U at c2 ⊢
    generalize blocksM (revS s) = R at c3 ⊢
    have l1 : (1 : Int) < (([E, U, R] : List (List S40)).length : Int) := by simp
    have l2 : (2 : Int) < (([E, U, R] : List (List S40)).length : Int) := by simp
    have r1 : rd_L7 [E, U, R] 1 = U := rfl
    have r2 : rd_L7 [E, U, R] 2 = R := rfl
    have hu := told_size U (by omega)
    simp only [if_true, if_pos l1, if_pos l2, r1, r2, told_f U (by omega), Option.bind_some, contains_eq]
    unfold canonL
    by_cases hm : Lib.indexByte (toldP U).data.toList 45 ≥ 0
    · simp only [decide_eq_true hm, if_true, Bool.true_or]
      exact Ev.step (f := fun _ => _) (fun k => canon_j0 E U R _ _ _ (by omega) (by omega) hu k) (Ev.now _)
    · simp only [decide_eq_false hm, Bool.false_eq_true, if_false, Bool.false_or]
      have e : decide ((R.length : Int) > 0) = decide (0 < R.length) := by
        apply decide_eq_decide.mpr
        omega
      rw [e]
      exact Ev.step (f := fun _ => _) (fun k => canon_j0 E U R _ _ _ (by omega) (by omega) hu k) (Ev.now _)
  · simp only [if_neg h]
    exact Ev.now _

/-! ### the reference -/
theorem ref_told (l : List S40) (hl : (cat l).length ≤ 4194304) (hn : l.length ≤ 4194304) : ∀ d i, i + d = l.length → Ev (fun k => depotref20_told.l0 k l (mkB (cat (l.take i))) (i : Int)) (mkB (cat l)) := by
  intro d
  induction d with
  | zero =>
    intro i hi
    refine Ev.step (f := fun _ => some (mkB (cat l))) (fun k => ?_) (Ev.now _)
    rw [depotref20_told.l0, if_neg (by omega), show i = l.length by omega, List.take_length]
  | succ d ih =>
    intro i hi
    have hlt : i < l.length := by omega
    have hrd : l[i]? = some (rd_T40 l (i : Int)) := by
      unfold rd_T40
      rw [Int.toNat_natCast, List.getD_eq_getElem?_getD, List.getElem?_eq_getElem hlt, Option.getD_some]
    have hst : cat (l.take (i + 1)) = (cat (l.take i) ++ (rd_T40 l (i : Int)).f0.data.toList) ++ (rd_T40 l (i : Int)).f1.data.toList := version_told.cat_step l i _ hrd
    have hle : (cat (l.take (i + 1))).length ≤ (cat l).length := version_told.cat_le l (i + 1)
    rw [hst, List.length_append, List.length_append] at hle
    have z0 : (rd_T40 l (i : Int)).f0.data.toList.length = (rd_T40 l (i : Int)).f0.size := by simp
    have z1 : (rd_T40 l (i : Int)).f1.data.toList.length = (rd_T40 l (i : Int)).f1.size := by simp
    have e : (mkB (cat (l.take i)) ++ (rd_T40 l (i : Int)).f0) ++ (rd_T40 l (i : Int)).f1 = mkB (cat (l.take (i + 1))) := by
      apply ba_ext
      rw [data_app, data_app, mkB_data, mkB_data, hst]
    refine Ev.step (f := fun k => depotref20_told.l0 k l (mkB (cat (l.take (i + 1)))) ((i + 1 : Nat) : Int)) (fun k => ?_) (ih (i + 1) (by omega))
    rw [depotref20_told.l0, if_pos (by omega), if_pos (by omega), if_pos (by rw [mkB_size]; omega), if_pos (by rw [ByteArray.size_append, mkB_size]; omega), e, wrap_id (by omega) (by omega)]
    rfl
theorem rtold_ev (l : List S40) (hl : (cat l).length ≤ 4194304) (hn : l.length ≤ 4194304) : Ev (fun k => depotref20_told.f k l) (mkB (cat l)) := ref_told l hl hn l.length 0 (by omega)
theorem up_eq (U : List S40) : (if (mkB (cat U)).toList = [] then zeroT else mkB (cat U)) = toldP U := by
  unfold toldP
  rw [mkB_toList]
theorem rc_j3 (R : List S40) (x9 : ByteArray) (m : Bool) (hR : (cat R).length ≤ 4194304) (h9 : x9.size ≤ 16777216) :
    Ev (fun k => depotref20_Canon.j3 k (mkB (cat R)) x9 m) (if m = true then (x9 ++ dashT) ++ toldP R else x9, 0) := by
  refine Ev.step (f := fun _ => some (if m = true then (x9 ++ dashT) ++ toldP R else x9, 0)) (fun k => ?_) (Ev.now _)
  have d1 : (⟨#[45]⟩ : ByteArray).size = 1 := rfl
  rw [depotref20_Canon.j3, mkB_toList]
  cases m with
  | true =>
    simp only [if_true]
    unfold toldP
    by_cases h : cat R = []
    · rw [if_pos h, if_pos (by omega), if_pos (by rw [ByteArray.size_append, d1]; omega), if_pos h]
      rfl
    · rw [if_neg h, if_pos (by omega), if_pos (by rw [ByteArray.size_append, d1, mkB_size]; omega), if_neg h]
      rfl
  | false => rfl
theorem rc_j2 (R : List S40) (up x9 : ByteArray) (hR : (cat R).length ≤ 4194304) (hu : up.size ≤ 4194305) (h9 : x9.size ≤ 16777216) :
    Ev (fun k => depotref20_Canon.j2 k up (mkB (cat R)) x9) (if (decide (Lib.indexByte up.data.toList 45 ≥ 0) || !decide (cat R = [])) = true then (x9 ++ dashT) ++ toldP R else x9, 0) := by
  by_cases h : cat R = []
  · refine Ev.step (f := fun k => (depotref20_first.f k up 45).bind fun t => depotref20_Canon.j3 k (mkB (cat R)) x9 (decide (t ≥ 0))) (fun k => ?_) ?_
    · rw [depotref20_Canon.j2, mkB_toList, if_pos h]
    · refine Ev.bind (first_ev up 45 (by omega)) ?_
      rw [decide_eq_true h, Bool.not_true, Bool.or_false]
      exact rc_j3 R x9 _ hR h9
  · refine Ev.step (f := fun k => depotref20_Canon.j3 k (mkB (cat R)) x9 true) (fun k => ?_) ?_
    · rw [depotref20_Canon.j2, mkB_toList, if_neg h]
    · rw [decide_eq_false h, Bool.not_false, Bool.or_true]
      exact rc_j3 R x9 _ hR h9
theorem rc_j1 (E R : List S40) (up : ByteArray) (c : Bool) (r : ByteArray × Int) (hE : (cat E).length ≤ 4194304) (hu : up.size ≤ 4194305)
    (H : Ev (fun k => depotref20_Canon.j2 k up (mkB (cat R)) (if c = true then (toldP E ++ colT) ++ up else up)) r) :
    Ev (fun k => depotref20_Canon.j1 k (mkB (cat E)) up (mkB (cat R)) up c) r := by
  refine Ev.step (fun k => ?_) H
  have d2 : (⟨#[58]⟩ : ByteArray).size = 1 := rfl
  have d0 : (⟨#[48]⟩ : ByteArray).size = 1 := rfl
  rw [depotref20_Canon.j1, mkB_toList]
  cases c with
  | true =>
    simp only [if_true]
    unfold toldP
    by_cases h : cat E = []
    · rw [if_pos h, if_pos (by omega), if_pos (by rw [ByteArray.size_append, d0, d2]; omega), if_pos h]
      rfl
    · rw [if_neg h, if_pos (by rw [mkB_size]; omega), if_pos (by rw [ByteArray.size_append, d2, mkB_size]; omega), if_neg h]
      rfl
  | false => rfl
theorem rc_j0 (E R : List S40) (up : ByteArray) (hE : (cat E).length ≤ 4194304) (hR : (cat R).length ≤ 4194304) (hu : up.size ≤ 4194305) :
    Ev (fun k => depotref20_Canon.j0 k (mkB (cat E)) up (mkB (cat R)))
      (if (decide (Lib.indexByte up.data.toList 45 ≥ 0) || !decide (cat R = [])) = true then ((if (decide (Lib.indexByte up.data.toList 58 ≥ 0) || !decide (cat E = [])) = true then (toldP E ++ colT) ++ up else up) ++ dashT) ++ toldP R else (if (decide (Lib.indexByte up.data.toList 58 ≥ 0) || !decide (cat E = [])) = true then (toldP E ++ colT) ++ up else up), 0) := by
  have z1 := told_size E hE
  have d2 : colT.size = 1 := rfl
  have key : ∀ c : Bool, Ev (fun k => depotref20_Canon.j1 k (mkB (cat E)) up (mkB (cat R)) up c) (if (decide (Lib.indexByte up.data.toList 45 ≥ 0) || !decide (cat R = [])) = true then ((if c = true then (toldP E ++ colT) ++ up else up) ++ dashT) ++ toldP R else (if c = true then (toldP E ++ colT) ++ up else up), 0) := by
    intro c
    refine rc_j1 E R up c _ hE hu (rc_j2 R up _ hR hu ?_)
    split
    · rw [ByteArray.size_append, ByteArray.size_append, d2]; omega
    · omega
  by_cases h : cat E = []
  · refine Ev.step (f := fun k => (depotref20_first.f k up 58).bind fun t => depotref20_Canon.j1 k (mkB (cat E)) up (mkB (cat R)) up (decide (t ≥ 0))) (fun k => ?_) ?_
    · rw [depotref20_Canon.j0, mkB_toList, if_pos h]
    · refine Ev.bind (first_ev up 58 (by omega)) ?_
      rw [decide_eq_true h, Bool.not_true, Bool.or_false]
      exact key _
  · refine Ev.step (f := fun k => depotref20_Canon.j1 k (mkB (cat E)) up (mkB (cat R)) up true) (fun k => ?_) ?_
    · rw [depotref20_Canon.j0, mkB_toList, if_neg h]
    · rw [decide_eq_false h, Bool.not_false, Bool.or_true]
      exact key true
theorem ref_canon_ev (s : ByteArray) (hs : s.size ≤ 1048576) : Ev (fun k => depotref20_Canon.f k s) (canonM s) := by
  unfold depotref20_Canon.f canonM
  obtain ⟨p1, p2, p3⟩ := parts_le s
  have c1 := blocksM_cat (epochS s)
  have c2 := blocksM_cat (upS s)
  have c3 := blocksM_cat (revS s)
  have n1 := blocksM_len (epochS s)
  have n2 := blocksM_len (upS s)
  have n3 := blocksM_len (revS s)
  have e1 := blocks_empty (epochS s)
  have e3 := blocks_empty (revS s)
  refine Ev.bind (ref_key_ev s (by omega)) ?_
  unfold keyM
  by_cases h : okS s = true
  · simp only [if_pos h]
    generalize blocksM (epochS s) = E at c1 n1 e1 ⊢
    generalize blocksM (upS s) = U at c2 n2 ⊢
    generalize blocksM (revS s) = R at c3 n3 e3 ⊢
    have l0 : (0 : Int) < (([E, U, R] : List (List S40)).length : Int) := by simp
    have l1 : (1 : Int) < (([E, U, R] : List (List S40)).length : Int) := by simp
    have l2 : (2 : Int) < (([E, U, R] : List (List S40)).length : Int) := by simp
    have r0 : rd_L7 [E, U, R] 0 = E := rfl
    have r1 : rd_L7 [E, U, R] 1 = U := rfl
    have r2 : rd_L7 [E, U, R] 2 = R := rfl
    have hu := told_size U (by omega)
    simp only [if_true, if_pos l0, if_pos l1, if_pos l2, r0, r1, r2]
    refine Ev.bind (rtold_ev E (by omega) (by omega)) ?_
    refine Ev.bind (rtold_ev U (by omega) (by omega)) ?_
    refine Ev.bind (rtold_ev R (by omega) (by omega)) ?_
    have ej : ∀ k, (if (mkB (cat U)).toList = ([] : List UInt8) then depotref20_Canon.j0 k (mkB (cat E)) (⟨#[48]⟩ : ByteArray) (mkB (cat R)) else depotref20_Canon.j0 k (mkB (cat E)) (mkB (cat U)) (mkB (cat R))) = depotref20_Canon.j0 k (mkB (cat E)) (toldP U) (mkB (cat R)) := by
      intro k
      rw [← up_eq U]
      split <;> rfl
    simp only [ej]
    have hj := rc_j0 E R (toldP U) (by omega) (by omega) hu
    have hd : ∀ l : List S40, (cat l = [] ↔ ¬ 0 < l.length) → (!decide (cat l = [])) = decide (0 < l.length) := by
      intro l hl
      by_cases hp : 0 < l.length
      · rw [decide_eq_true hp, decide_eq_false (fun hc => hl.mp hc hp)]; rfl
      · rw [decide_eq_false hp, decide_eq_true (hl.mpr hp)]; rfl
    rw [hd E e1, hd R e3] at hj
    have ec : canonL E U R = (if (decide (Lib.indexByte (toldP U).data.toList 45 ≥ 0) || decide (0 < R.length)) = true then ((if (decide (Lib.indexByte (toldP U).data.toList 58 ≥ 0) || decide (0 < E.length)) = true then (toldP E ++ colT) ++ toldP U else toldP U) ++ dashT) ++ toldP R else (if (decide (Lib.indexByte (toldP U).data.toList 58 ≥ 0) || decide (0 < E.length)) = true then (toldP E ++ colT) ++ toldP U else toldP U)) := by
      unfold canonL tailM
      split <;> split <;> first | rfl | (apply ba_ext; simp only [data_app, List.append_assoc])
    rw [ec]
    exact hj
  · simp only [if_neg h]
    exact Ev.now _
theorem canons_ev (s : ByteArray) (hs : s.size ≤ 1048576) : Ev (fun k => depotlaw20_VersionCanons.f k s) true := by
  unfold depotlaw20_VersionCanons.f
  refine Ev.bind (canon_ev _ (by decide)) ?_
  have e0 : (canonM ⟨#[48, 58, 48, 48, 55, 45, 48]⟩).1.data.toList = [55] := by kernel_rfl
  have e1 : ((canonM ⟨#[48, 58, 48, 48, 55, 45, 48]⟩).2 != 0) = false := by kernel_rfl
  have e2 : (canonM ⟨#[48, 58, 48, 48, 55, 45, 48]⟩).1.toList = ([55] : List UInt8) := by rw [Lib.toList_data]; exact e0
  simp only [e1, if_pos e2]
  refine Ev.step (f := fun k => (version_Canon.f k s).bind fun bt240 => ((depotref20_Canon.f k s).bind fun bt242 => (if bt240.1.toList = bt242.1.toList then (some (bt240.2 == bt242.2)) else (some false)))) (fun k => ?_) ?_
  · simp only [depotlaw20_VersionCanons.j0, Bool.false_eq_true, if_false]
  refine Ev.bind (canon_ev s hs) ?_
  refine Ev.bind (ref_canon_ev s hs) ?_
  simp only [if_true, beq_self_eq_true]
  exact Ev.now _
end Go.Proofs.YtcndnccobhgnlaaDoor.Ver
