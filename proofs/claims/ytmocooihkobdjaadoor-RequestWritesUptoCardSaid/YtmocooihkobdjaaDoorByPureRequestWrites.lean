/-
  RequestWrites (P24.3) as plain Lean: the program's text of a request is the reference's, for requests of a measure of at most 2^20.
-/
import Derived.Test.YtmocooihkobdjaaDoorByFnRefWrite
import Derived.Test.YtmocooihkobdjaaDoorByFnReqForm
import Derived.Test.YtmocooihkobdjaaDoorByFnCopyReq
set_option linter.unusedVariables false
set_option linter.unusedSimpArgs false
namespace Go.Proofs.YtmocooihkobdjaaDoor.Model
open Go.RowKit Go.Proofs.YtmocooihkobdjaaDoor.B Go.Proofs.YtmocooihkobdjaaDoorW.PrintWords Go.Proofs.YtmocooihkobdjaaDoorW.PrintLast Go.Proofs.YtmocooihkobdjaaDoor.Ver

def tLst (o : List S46) : ByteArray := if okL [o] = true then ofL (textsM [o]) else ⟨#[]⟩
def tRel (x : S46) : ByteArray := if [x].all formM = true then ofL (textsM (singles [x])) else ⟨#[]⟩
def lineI (o : List S46) : B := (request_Write.line request_Write.insW (tLst o)).data.toList
def lineF (x : S46) : B := (request_Write.line request_Write.forbW (tRel x)).data.toList
def lineW (x : S48) : B := (request_Write.line (request_Write.wishW x.f0) (tRel x.f1)).data.toList
def insS (L : List (List S46)) : B := (L.map lineI).flatten
def forbS (F : List S46) : B := (F.map lineF).flatten
def wisS (W : List S48) : B := (W.map lineW).flatten
theorem ofL_len (s : ByteArray) : s.data.toList.length = s.size := by simp
theorem app_toL (a b : ByteArray) : (a ++ b).data.toList = a.data.toList ++ b.data.toList := by rw [app_ofL, toL_ofL]
theorem line_toL (w t : ByteArray) : (request_Write.line w t).data.toList = ((w.data.toList ++ [32]) ++ t.data.toList) ++ [10] := by
  unfold request_Write.line
  rw [app_toL, app_toL, app_toL]
theorem line_len (w t : ByteArray) (hw : w.size ≤ 7) : (request_Write.line w t).data.toList.length ≤ t.size + 9 := by
  rw [line_toL]
  simp only [List.length_append, ofL_len, List.length_cons, List.length_nil]
  omega
theorem tLst_len (o : List S46) : (tLst o).size ≤ 9 * rowW o := by
  unfold tLst
  split
  · rw [ofL_size]
    have := textsM_len [o]
    simp only [List.map_cons, List.map_nil, List.sum_cons, List.sum_nil] at this
    omega
  · exact Nat.zero_le _
theorem tRel_len (x : S46) : (tRel x).size ≤ 18 * relW x := by
  unfold tRel
  split
  · rw [ofL_size]
    have h1 := textsM_len (singles [x])
    have h2 := singles_weigh [x]
    simp only [List.map_cons, List.map_nil, List.sum_cons, List.sum_nil] at h2
    omega
  · exact Nat.zero_le _
theorem insS_len (L : List (List S46)) : (insS L).length ≤ 18 * (L.map rowW).sum := by
  unfold insS
  induction L with
  | nil => simp
  | cons o L ih =>
    rw [List.map_cons, List.flatten_cons, List.length_append, List.map_cons, List.sum_cons]
    have h1 : (lineI o).length ≤ (tLst o).size + 9 := line_len _ _ (by decide)
    have h2 := tLst_len o
    have h3 : rowW o = (o.map relW).sum + 1 := rfl
    omega
theorem forbS_len (F : List S46) : (forbS F).length ≤ 27 * (F.map relW).sum := by
  unfold forbS
  induction F with
  | nil => simp
  | cons x F ih =>
    rw [List.map_cons, List.flatten_cons, List.length_append, List.map_cons, List.sum_cons]
    have h1 : (lineF x).length ≤ (tRel x).size + 9 := line_len _ _ (by decide)
    have h2 := tRel_len x
    have h3 : 1 ≤ relW x := by unfold relW; omega
    omega
theorem wishW_len (b : Bool) : (request_Write.wishW b).size ≤ 7 := by cases b <;> decide
theorem wisS_len (W : List S48) : (wisS W).length ≤ 27 * ((wrels W).map relW).sum := by
  unfold wisS wrels
  induction W with
  | nil => simp
  | cons x W ih =>
    rw [List.map_cons, List.flatten_cons, List.length_append, List.map_cons, List.map_cons, List.sum_cons]
    have h1 : (lineW x).length ≤ (tRel x.f1).size + 9 := line_len _ _ (wishW_len _)
    have h2 := tRel_len x.f1
    have h3 : 1 ≤ relW x.f1 := by unfold relW; omega
    omega

/-! ### one line's text, by the program and by the reference -/
theorem wr1 (o : List S46) (h : rowW o ≤ 1048576) : ∃ z, Ev (fun k => relation_Write.f k [o]) (tLst o, z) := by
  have := write_ev [o] (by simp only [List.map_cons, List.map_nil, List.sum_cons, List.sum_nil]; omega)
  unfold tLst
  cases hc : okL [o] with
  | true => rw [hc] at this; exact ⟨_, this⟩
  | false => rw [hc] at this; exact ⟨_, this⟩
theorem rwr1 (o : List S46) (h : rowW o ≤ 1048576) : ∃ z, Ev (fun k => depotref22_Write.f k [o]) (tLst o, z) := by
  have := rwrite_ev [o] (by simp only [List.map_cons, List.map_nil, List.sum_cons, List.sum_nil]; omega)
  unfold tLst
  cases hc : okL [o] with
  | true => rw [hc] at this; exact ⟨_, this⟩
  | false => rw [hc] at this; exact ⟨_, this⟩
theorem wl1 (x : S46) (h : relW x ≤ 1048576) : ∃ z, Ev (fun k => relation_WriteList.f k [x]) (tRel x, z) := by
  have := writelist_ev [x] (by simp only [List.map_cons, List.map_nil, List.sum_cons, List.sum_nil]; omega)
  unfold tRel
  cases hc : [x].all formM with
  | true => rw [hc] at this; exact ⟨_, this⟩
  | false => rw [hc] at this; exact ⟨_, this⟩
theorem rwl1 (x : S46) (h : relW x ≤ 1048576) : ∃ z, Ev (fun k => depotref22_WriteList.f k [x]) (tRel x, z) := by
  have := rwritelist_ev [x] (by simp only [List.map_cons, List.map_nil, List.sum_cons, List.sum_nil]; omega)
  unfold tRel
  cases hc : [x].all formM with
  | true => rw [hc] at this; exact ⟨_, this⟩
  | false => rw [hc] at this; exact ⟨_, this⟩

/-! ### the program's lines -/
theorem ins_ev : ∀ (L : List (List S46)) (a : B), (∀ o ∈ L, rowW o ≤ 1048576) → a.length + (insS L).length ≤ 1099511627776 → Ev (fun k => request_Write.ins k L a) (a ++ insS L)
  | [], a, _, _ => by
    have e : a ++ insS [] = a := by simp [insS]
    rw [e]
    exact Ev.now _
  | o :: L, a, h, hs => by
    obtain ⟨z, hz⟩ := wr1 o (h o (List.mem_cons_self ..))
    have e : insS (o :: L) = lineI o ++ insS L := rfl
    rw [e, List.length_append] at hs
    rw [e, ← List.append_assoc]
    have ih := ins_ev L (a ++ lineI o) (fun m hm => h m (List.mem_cons_of_mem _ hm)) (by rw [List.length_append]; omega)
    refine Ev.bind hz ?_
    have hc : (a ++ (request_Write.line request_Write.insW (tLst o)).data.toList).length ≤ 1099511627776 := by
      rw [List.length_append]
      have : (request_Write.line request_Write.insW (tLst o)).data.toList.length = (lineI o).length := rfl
      omega
    simp only [if_pos hc]
    exact ih
theorem forb_ev : ∀ (L : List S46) (a : B), (∀ o ∈ L, relW o ≤ 1048576) → a.length + (forbS L).length ≤ 1099511627776 → Ev (fun k => request_Write.forb k L a) (a ++ forbS L)
  | [], a, _, _ => by
    have e : a ++ forbS [] = a := by simp [forbS]
    rw [e]
    exact Ev.now _
  | o :: L, a, h, hs => by
    obtain ⟨z, hz⟩ := wl1 o (h o (List.mem_cons_self ..))
    have e : forbS (o :: L) = lineF o ++ forbS L := rfl
    rw [e, List.length_append] at hs
    rw [e, ← List.append_assoc]
    have ih := forb_ev L (a ++ lineF o) (fun m hm => h m (List.mem_cons_of_mem _ hm)) (by rw [List.length_append]; omega)
    refine Ev.bind hz ?_
    have hc : (a ++ (request_Write.line request_Write.forbW (tRel o)).data.toList).length ≤ 1099511627776 := by
      rw [List.length_append]
      have : (request_Write.line request_Write.forbW (tRel o)).data.toList.length = (lineF o).length := rfl
      omega
    simp only [if_pos hc]
    exact ih
theorem wis_ev : ∀ (L : List S48) (a : B), (∀ o ∈ L, relW o.f1 ≤ 1048576) → a.length + (wisS L).length ≤ 1099511627776 → Ev (fun k => request_Write.wis k L a) (a ++ wisS L)
  | [], a, _, _ => by
    have e : a ++ wisS [] = a := by simp [wisS]
    rw [e]
    exact Ev.now _
  | o :: L, a, h, hs => by
    obtain ⟨z, hz⟩ := wl1 o.f1 (h o (List.mem_cons_self ..))
    have e : wisS (o :: L) = lineW o ++ wisS L := rfl
    rw [e, List.length_append] at hs
    rw [e, ← List.append_assoc]
    have ih := wis_ev L (a ++ lineW o) (fun m hm => h m (List.mem_cons_of_mem _ hm)) (by rw [List.length_append]; omega)
    refine Ev.bind hz ?_
    have hc : (a ++ (request_Write.line (request_Write.wishW o.f0) (tRel o.f1)).data.toList).length ≤ 1099511627776 := by
      rw [List.length_append]
      have : (request_Write.line (request_Write.wishW o.f0) (tRel o.f1)).data.toList.length = (lineW o).length := rfl
      omega
    simp only [if_pos hc]
    exact ih

/-! ### the reference's lines -/
def asN (a : B) : List Int := a.map fun b => (b.toNat : Int)
theorem asN_app (a b : B) : asN (a ++ b) = asN a ++ asN b := by unfold asN; rw [List.map_append]
theorem asN_len (a : B) : (asN a).length = a.length := by unfold asN; rw [List.length_map]
theorem asN_str (a : B) : strOfNums (asN a) = ofL a := by
  unfold strOfNums asN ofL
  rw [List.map_map]
  congr 2
  conv => rhs; rw [← List.map_id a]
  refine List.map_congr_left (fun c _ => ?_)
  simp
theorem rline (a w : B) (t : ByteArray) (h : a.length + w.length + t.size ≤ 1099511627776) : depotref24_line.f (asN a) (ofL w) t = some (asN (a ++ ((w ++ t.data.toList) ++ [10]))) := by
  have e1 : bytesOf (ofL w) = asN w := by unfold bytesOf asN; rw [toL_ofL]
  have e2 : bytesOf t = asN t.data.toList := rfl
  have e3 : (asN (a ++ w)).length = a.length + w.length := by rw [asN_len, List.length_append]
  have e4 : (asN ((a ++ w) ++ t.data.toList)).length = a.length + w.length + t.size := by rw [asN_len, List.length_append, List.length_append, ofL_len]
  unfold depotref24_line.f
  rw [asN_len, ofL_size, e1, e2, ← asN_app]
  simp only [Option.bind_some]
  rw [e3, ← asN_app]
  simp only [e4]
  rw [if_pos (by omega), if_pos (by omega), if_pos (by omega)]
  have : ([10] : List Int) = asN [10] := rfl
  rw [this, ← asN_app]
  simp only [List.append_assoc]
theorem lineI_at (o : List S46) : lineI o = (([105, 110, 115, 116, 97, 108, 108, 32] : B) ++ (tLst o).data.toList) ++ [10] := by unfold lineI; rw [line_toL]; rfl
theorem lineF_at (x : S46) : lineF x = (([102, 111, 114, 98, 105, 100, 32] : B) ++ (tRel x).data.toList) ++ [10] := by unfold lineF; rw [line_toL]; rfl
theorem lineW_at (x : S48) : lineW x = ((if x.f0 = true then ([97, 118, 111, 105, 100, 32] : B) else [112, 114, 101, 102, 101, 114, 32]) ++ (tRel x.f1).data.toList) ++ [10] := by
  unfold lineW
  rw [line_toL]
  cases x.f0 <;> rfl
theorem slice_one {α : Type} {L : List α} {i : Nat} (h : i < L.length) : (L.take (i + 1)).drop i = [L[i]] := by
  rw [List.take_succ_eq_append_getElem h, List.drop_append_of_le_length (by rw [List.length_take]; omega), List.drop_of_length_le (by rw [List.length_take]; omega), List.nil_append]
theorem rwis_ev (L : List (List S46)) (F : List S46) (W : List S48) (hW : W.length ≤ 4000000) (hw : ∀ o ∈ W, relW o.f1 ≤ 1048576) : ∀ (d i : Nat), i + d = W.length → ∀ a : B, a.length + (wisS (W.drop i)).length ≤ 1099511627776 →
    Ev (fun k => depotref24_Write.l2 k (asN a) (i : Int) L F W) (ofL (a ++ wisS (W.drop i)), 0) := by
  intro d
  induction d with
  | zero =>
    intro i hi a ha
    obtain rfl : i = W.length := by omega
    rw [List.drop_length]
    have e : a ++ wisS [] = a := by simp [wisS]
    rw [e]
    refine Ev.step (f := fun _ => some (ofL a, 0)) (fun k => ?_) (Ev.now _)
    simp only [depotref24_Write.l2]
    rw [if_neg (by omega), asN_str]
  | succ d ih =>
    intro i hi a ha
    have hi' : i < W.length := by omega
    have ew : wrap64 ((i : Int) + 1) = ((i + 1 : Nat) : Int) := by rw [wrap_id (by omega) (by omega)]; omega
    rw [drop_at hi'] at ha ⊢
    have e : wisS (W[i] :: W.drop (i + 1)) = lineW W[i] ++ wisS (W.drop (i + 1)) := rfl
    rw [e] at ha ⊢
    rw [List.length_append] at ha
    rw [← List.append_assoc]
    have hn := ih (i + 1) (by omega) (a ++ lineW W[i]) (by rw [List.length_append]; omega)
    obtain ⟨z, hz⟩ := rwl1 W[i].f1 (hw _ (List.getElem_mem hi'))
    have hl := lineW_at W[i]
    have hb : (lineW W[i]).length = (if W[i].f0 = true then ([97, 118, 111, 105, 100, 32] : B) else [112, 114, 101, 102, 101, 114, 32]).length + (tRel W[i].f1).size + 1 := by
      rw [hl, List.length_append, List.length_append, ofL_len]; rfl
    refine Ev.step (f := fun k => (depotref22_WriteList.f k [W[i].f1]).bind fun t => (depotref24_line.f (asN a) (ofL (if W[i].f0 = true then ([97, 118, 111, 105, 100, 32] : B) else [112, 114, 101, 102, 101, 114, 32])) t.1).bind fun u => depotref24_Write.l2 k u ((i + 1 : Nat) : Int) L F W) (fun k => ?_) (Ev.bind hz ?_)
    · simp only [depotref24_Write.l2, wt_at hi', ew]
      rw [if_pos (by omega), if_pos (by omega)]
      cases W[i].f0 <;> rfl
    · simp only
      rw [rline a _ _ (by omega), ← hl]
      exact hn
theorem rforb_ev (L : List (List S46)) (F : List S46) (W : List S48) (hF : F.length ≤ 4000000) (hf : ∀ o ∈ F, relW o ≤ 1048576) (hW : W.length ≤ 4000000) (hw : ∀ o ∈ W, relW o.f1 ≤ 1048576) : ∀ (d i : Nat), i + d = F.length → ∀ a : B, a.length + ((forbS (F.drop i)).length + (wisS W).length) ≤ 1099511627776 →
    Ev (fun k => depotref24_Write.l1 k (asN a) (i : Int) L F W) (ofL ((a ++ forbS (F.drop i)) ++ wisS W), 0) := by
  intro d
  induction d with
  | zero =>
    intro i hi a ha
    obtain rfl : i = F.length := by omega
    rw [List.drop_length] at ha ⊢
    have e : a ++ forbS [] = a := by simp [forbS]
    rw [e]
    have := rwis_ev L F W hW hw W.length 0 (by omega) a (by rw [List.drop_zero]; omega)
    rw [List.drop_zero] at this
    refine Ev.step (f := _) (fun k => ?_) this
    simp only [depotref24_Write.l1]
    rw [if_neg (by omega)]
    rfl
  | succ d ih =>
    intro i hi a ha
    have hi' : i < F.length := by omega
    have ew : wrap64 ((i : Int) + 1) = ((i + 1 : Nat) : Int) := by rw [wrap_id (by omega) (by omega)]; omega
    rw [drop_at hi'] at ha ⊢
    have e : forbS (F[i] :: F.drop (i + 1)) = lineF F[i] ++ forbS (F.drop (i + 1)) := rfl
    rw [e] at ha ⊢
    rw [List.length_append] at ha
    rw [← List.append_assoc]
    have hn := ih (i + 1) (by omega) (a ++ lineF F[i]) (by rw [List.length_append]; omega)
    obtain ⟨z, hz⟩ := rwl1 F[i] (hf _ (List.getElem_mem hi'))
    have hl := lineF_at F[i]
    have hb : (lineF F[i]).length = ([102, 111, 114, 98, 105, 100, 32] : B).length + (tRel F[i]).size + 1 := by
      rw [hl, List.length_append, List.length_append, ofL_len]; rfl
    refine Ev.step (f := fun k => (depotref22_WriteList.f k [F[i]]).bind fun t => (depotref24_line.f (asN a) (ofL ([102, 111, 114, 98, 105, 100, 32] : B)) t.1).bind fun u => depotref24_Write.l1 k u ((i + 1 : Nat) : Int) L F W) (fun k => ?_) (Ev.bind hz ?_)
    · simp only [depotref24_Write.l1, ew, Int.toNat_natCast, slice_one hi']
      rw [if_pos (by omega), if_pos (by omega), if_pos (by omega), if_pos (by omega)]
      rfl
    · simp only
      rw [rline a _ _ (by omega), ← hl]
      exact hn
theorem rins_ev (L : List (List S46)) (F : List S46) (W : List S48) (hL : L.length ≤ 4000000) (hl : ∀ o ∈ L, rowW o ≤ 1048576) (hF : F.length ≤ 4000000) (hf : ∀ o ∈ F, relW o ≤ 1048576) (hW : W.length ≤ 4000000) (hw : ∀ o ∈ W, relW o.f1 ≤ 1048576) : ∀ (d i : Nat), i + d = L.length → ∀ a : B, a.length + ((insS (L.drop i)).length + ((forbS F).length + (wisS W).length)) ≤ 1099511627776 →
    Ev (fun k => depotref24_Write.l0 k (asN a) (i : Int) L F W) (ofL (((a ++ insS (L.drop i)) ++ forbS F) ++ wisS W), 0) := by
  intro d
  induction d with
  | zero =>
    intro i hi a ha
    obtain rfl : i = L.length := by omega
    rw [List.drop_length] at ha ⊢
    have e : a ++ insS [] = a := by simp [insS]
    rw [e]
    have := rforb_ev L F W hF hf hW hw F.length 0 (by omega) a (by rw [List.drop_zero]; omega)
    rw [List.drop_zero] at this
    refine Ev.step (f := _) (fun k => ?_) this
    simp only [depotref24_Write.l0]
    rw [if_neg (by omega)]
    rfl
  | succ d ih =>
    intro i hi a ha
    have hi' : i < L.length := by omega
    have c1 : ((i : Int) < (L.length : Int)) = True := eq_true (by omega)
    have c2 : ((0 : Int) ≤ (i : Int)) = True := eq_true (by omega)
    have c3 : ((i : Int) ≤ ((i + 1 : Nat) : Int)) = True := eq_true (by omega)
    have c4 : (((i + 1 : Nat) : Int) ≤ (L.length : Int)) = True := eq_true (by omega)
    have ew : wrap64 ((i : Int) + 1) = ((i + 1 : Nat) : Int) := by rw [wrap_id (by omega) (by omega)]; omega
    rw [drop_at hi'] at ha ⊢
    have e : insS (L[i] :: L.drop (i + 1)) = lineI L[i] ++ insS (L.drop (i + 1)) := rfl
    rw [e] at ha ⊢
    rw [List.length_append] at ha
    rw [← List.append_assoc]
    have hn := ih (i + 1) (by omega) (a ++ lineI L[i]) (by rw [List.length_append]; omega)
    obtain ⟨z, hz⟩ := rwr1 L[i] (hl _ (List.getElem_mem hi'))
    have hl' := lineI_at L[i]
    have hb : (lineI L[i]).length = ([105, 110, 115, 116, 97, 108, 108, 32] : B).length + (tLst L[i]).size + 1 := by
      rw [hl', List.length_append, List.length_append, ofL_len]; rfl
    have hbb : a.length + ([105, 110, 115, 116, 97, 108, 108, 32] : B).length + (tLst L[i]).size ≤ 1099511627776 := by
      have h9 : (lineI L[i]).length ≤ 1099511627776 - a.length := by clear hb; omega
      rw [hb] at h9
      clear hb ha
      omega
    refine Ev.step (f := fun k => (depotref22_Write.f k [L[i]]).bind fun t => (depotref24_line.f (asN a) (ofL ([105, 110, 115, 116, 97, 108, 108, 32] : B)) t.1).bind fun u => depotref24_Write.l0 k u ((i + 1 : Nat) : Int) L F W) (fun k => ?_) (Ev.bind hz ?_)
    · simp only [depotref24_Write.l0, ew, Int.toNat_natCast, slice_one hi', c1, c2, c3, c4, if_true]
      rfl
    · simp only
      rw [rline a _ _ hbb, ← hl']
      exact hn

/-! ### the whole -/
def reqText (L : List (List S46)) (F : List S46) (W : List S48) : B := (([] ++ insS L) ++ forbS F) ++ wisS W
theorem three_small (a b c l1 l2 l3 : Nat) (h1 : a + 1 ≤ 1048576) (h2 : b + 1 ≤ 1048576) (h3 : c + 1 ≤ 1048576) (s1 : l1 ≤ 18 * a) (s2 : l2 ≤ 27 * b) (s3 : l3 ≤ 27 * c) : l1 + (l2 + l3) ≤ 99999999 := by omega
theorem four_small (p q r s : Nat) (h : p + q + r + s ≤ 1048576) : p ≤ 4000000 ∧ r ≤ 4000000 ∧ s ≤ 4000000 := by omega
theorem mem_small (a b : Nat) (h : b + 1 ≤ 1048576) (h2 : a ≤ b) : a ≤ 1048576 := by omega
theorem req_small {L : List (List S46)} {F : List S46} {W : List S48} (h : reqW L F W ≤ 1048576) :
    (∀ o ∈ L, rowW o ≤ 1048576) ∧ (∀ o ∈ F, relW o ≤ 1048576) ∧ (∀ o ∈ W, relW o.f1 ≤ 1048576) ∧ (insS L).length + ((forbS F).length + (wisS W).length) ≤ 99999999 ∧ L.length ≤ 4000000 ∧ F.length ≤ 4000000 ∧ W.length ≤ 4000000 :=
  have ⟨h1, h2, h3, h4, h5⟩ := req_parts h
  ⟨fun o ho => mem_small _ _ h1 (rowW_mem ho), fun o ho => mem_small _ _ h2 (relW_mem ho), fun o ho => mem_small _ _ h3 (relW_mem (l := wrels W) (List.mem_map.2 ⟨o, ho, rfl⟩)),
    three_small _ _ _ _ _ _ h1 h2 h3 (insS_len L) (forbS_len F) (wisS_len W), four_small _ _ _ _ h4⟩
theorem reqwrite_ev (L : List (List S46)) (F : List S46) (W : List S48) (h : reqW L F W ≤ 1048576) : Ev (fun k => request_Write.f k L F W) (if reqOk L F W = true then (ofL (reqText L F W), 0) else (⟨#[]⟩, 1)) := by
  obtain ⟨a1, a2, a3, a4, _⟩ := req_small h
  unfold request_Write.f
  refine Ev.bind (reqform_ev L F W h) ?_
  cases reqOk L F W with
  | false =>
    simp only [Bool.false_eq_true, if_false]
    exact Ev.now _
  | true =>
    simp only [if_true]
    refine Ev.bind (ins_ev L [] a1 (by simp only [List.length_nil]; omega)) ?_
    refine Ev.bind (forb_ev F _ a2 (by simp only [List.length_append, List.length_nil]; omega)) ?_
    refine Ev.bind (wis_ev W _ a3 (by simp only [List.length_append, List.length_nil]; omega)) ?_
    exact Ev.now _
theorem rreqwrite_ev (L : List (List S46)) (F : List S46) (W : List S48) (h : reqW L F W ≤ 1048576) : Ev (fun k => depotref24_Write.f k L F W) (if reqOk L F W = true then (ofL (reqText L F W), 0) else (⟨#[]⟩, 1)) := by
  obtain ⟨a1, a2, a3, a4, a5, a6, a7⟩ := req_small h
  unfold depotref24_Write.f
  refine Ev.bind (rreqform_ev L F W h) ?_
  cases reqOk L F W with
  | false =>
    simp only [Bool.false_eq_true, if_false]
    exact Ev.now _
  | true =>
    simp only [if_true]
    have := rins_ev L F W a5 a1 a6 a2 a7 a3 L.length 0 (by omega) [] (by rw [List.drop_zero, List.length_nil]; omega)
    rw [List.drop_zero] at this
    exact this
theorem reqwrites_law (L : List (List S46)) (F : List S46) (W : List S48) (h : reqW L F W ≤ 1048576) : Ev (fun k => depotlaw24_RequestWrites.f k L F W) true := by
  unfold depotlaw24_RequestWrites.f
  refine Ev.bind (copyreq_ev L F W h) ?_
  refine Ev.bind (reqwrite_ev L F W h) ?_
  refine Ev.bind (rreqwrite_ev L F W h) ?_
  simp only [if_true, beq_self_eq_true]
  exact Ev.now _
end Go.Proofs.YtmocooihkobdjaaDoor.Model
