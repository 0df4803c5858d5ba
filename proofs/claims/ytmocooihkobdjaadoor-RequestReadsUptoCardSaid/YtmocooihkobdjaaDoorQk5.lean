/- A part of the proof: the texts of this claim, packed by a program of this session (wip/pack.py). -/
import Derived.Lib.IndexBytes
import Derived.Laws.StructEq
import Derived.Lib.Join
import Derived.Lib.SplitLaws
import Derived.Lib.IndexAny
import Derived.Lib.SlTrimSet
import Derived.KernelRfl
import Derived.Test.YtmocooihkobdjaaDoorQk1
import Derived.Test.YtmocooihkobdjaaDoorQk2
import Derived.Test.YtmocooihkobdjaaDoorQk3
import Derived.Test.YtmocooihkobdjaaDoorQk4
section
namespace Go.Proofs.YtmocooihkobdjaaDoor.Q
open Go.RowKit Go.Proofs.YtmocooihkobdjaaDoorW.PrintWords Go.Proofs.YtmocooihkobdjaaDoorW.PrintLast Go.Proofs.YtmocooihkobdjaaDoorW.PrintMore
attribute [local go_sem] max2_int min2_int max_two min_two max_three min_three max_four min_four
set_option linter.unusedVariables false
set_option linter.unusedSimpArgs false
theorem depotref24_Read.info23 : (Tryd.prog.info? 23).map (fun i => (i.zero, i.size, i.bytes)) = some (some (.slice none 0 0), 1, 24) := by kernel_rfl
theorem depotref24_Read.info46 : (Tryd.prog.info? 46).map (fun i => (i.zero, i.size, i.bytes)) = some (some (.agg #[(.string ⟨#[]⟩), (.int .i64 0), (.string ⟨#[]⟩)]), 3, 40) := by kernel_rfl
theorem depotref24_Read.info48 : (Tryd.prog.info? 48).map (fun i => (i.zero, i.size, i.bytes)) = some (some (.agg #[(.bool false), (.string ⟨#[]⟩), (.int .i64 0), (.string ⟨#[]⟩)]), 4, 48) := by kernel_rfl
def depotref24_Read.Tr (base : Nat) (ok0 : Nat → Prop) (v0 v1 v2 : Value) (L : List (List S46)) (F : List S46) (W : List S48) (w : World) : Prop :=
  Kd.N (Kd.slice 46 k46) 23 w base (fun k => ok0 k ∧ some k ≠ v1.ownBlock ∧ some k ≠ v2.ownBlock) v0 L ∧ Kd.R k46 46 w base ok0 v1 F ∧ Kd.R k48 48 w base ok0 v2 W
def depotref24_Read.Stands (w w' : World) : Prop := ∀ (g : Nat) (cs : Array Value) (t : TypeId), t ≠ 23 → t ≠ 46 → t ≠ 48 → w.heap[g]? = some (.cells cs t (0, 0)) → w'.heap[g]? = some (.cells cs t (0, 0))
theorem depotref24_Read.three {g : Nat} {w : World} {a b c u0 u1 u2 : Value} (h : w.heap[g]? = some (.cells #[a, b, c] 26 (0, 0))) : (((w.setCell ⟨g, 0, none⟩ u0).setCell ⟨g, 1, none⟩ u1).setCell ⟨g, 2, none⟩ u2).heap[g]? = some (.cells #[u0, u1, u2] 26 (0, 0)) :=
  blk_put (blk_put (blk_put h 0 _ rfl) 1 _ rfl) 2 _ rfl
section
variable {base go : Nat} {ok0 ok1 : Nat → Prop} {v0 v1 v2 : Value} {L : List (List S46)} {F : List S46} {W : List S48} {w w1 : World}
theorem depotref24_Read.Tr_below (h : depotref24_Read.Tr base ok0 v0 v1 v2 L F W w) (hb : Below w.heap.size w w1) : depotref24_Read.Tr base ok0 v0 v1 v2 L F W w1 :=
  ⟨Kd.N_below h.1 hb, Kd.R_below h.2.1 hb, Kd.R_below h.2.2 hb⟩
theorem depotref24_Read.Tr_mono (h : depotref24_Read.Tr base ok0 v0 v1 v2 L F W w) (hok : ∀ k, ok0 k → ok1 k) : depotref24_Read.Tr base ok1 v0 v1 v2 L F W w :=
  ⟨Kd.N_mono h.1 (fun k hk => ⟨hok k hk.1, hk.2⟩), Kd.R_mono h.2.1 hok, Kd.R_mono h.2.2 hok⟩
theorem depotref24_Read.Tr_bound (h : depotref24_Read.Tr base ok0 v0 v1 v2 L F W w) : depotref24_Read.Tr base (fun k => ok0 k ∧ k < w.heap.size) v0 v1 v2 L F W w :=
  ⟨Kd.N_mono (Kd.N_bound h.1) (fun k hk => ⟨⟨hk.1.1, hk.2⟩, hk.1.2⟩), Kd.R_mono (Kd.R_bound h.2.1) (fun k hk => ⟨hk.1, hk.2.2.1⟩), Kd.R_mono (Kd.R_bound h.2.2) (fun k hk => ⟨hk.1, hk.2.2.1⟩)⟩
theorem depotref24_Read.Tr_far (h : depotref24_Read.Tr base ok0 v0 v1 v2 L F W w) {g : Nat} (hne : ∀ k, ok0 k → k ≠ g) (j : Nat) (u : Value) : depotref24_Read.Tr base ok0 v0 v1 v2 L F W (w.setCell ⟨g, j, none⟩ u) :=
  ⟨Kd.N_far (p := ⟨g, j, none⟩) h.1 (fun k hk => hne k hk.1) u, Kd.R_far (p := ⟨g, j, none⟩) h.2.1 hne u, Kd.R_far (p := ⟨g, j, none⟩) h.2.2 hne u⟩
theorem depotref24_Read.Tr_L {u : Value} {L' : List (List S46)} (h : depotref24_Read.Tr base ok0 v0 v1 v2 L F W w) (ho : Kd.N (Kd.slice 46 k46) 23 w1 base (fun k => ok0 k ∧ some k ≠ v1.ownBlock ∧ some k ≠ v2.ownBlock) u L') (hg : w.grownBy w1 v0.ownBlock) : depotref24_Read.Tr base ok0 u v1 v2 L' F W w1 := by
  obtain ⟨hN, hF, hW⟩ := h
  exact ⟨ho, Kd.R_over' hF (Kd.N_typed hN) (by decide) hg, Kd.R_over' hW (Kd.N_typed hN) (by decide) hg⟩
theorem depotref24_Read.Tr_F {u : Value} {F' : List S46} (h : depotref24_Read.Tr base ok0 v0 v1 v2 L F W w) (ho : Kd.R k46 46 w1 base ok0 u F') (hg : w.grownBy w1 v1.ownBlock) (hat : u.ownBlock = v1.ownBlock ∨ ∃ b, u.ownBlock = some b ∧ w.heap.size ≤ b) : depotref24_Read.Tr base ok0 v0 u v2 L F' W w1 := by
  obtain ⟨hN, hF, hW⟩ := h
  have hN1 := Kd.N_after (Kd.N_mono hN (ok' := fun k => (ok0 k ∧ some k ≠ v2.ownBlock) ∧ some k ≠ v1.ownBlock) (fun k hk => ⟨⟨hk.1, hk.2.2⟩, hk.2.1⟩)) hg hat
  exact ⟨Kd.N_mono hN1 (fun k hk => ⟨hk.1.1, hk.2, hk.1.2⟩), ho, Kd.R_over' hW (Kd.R_typed hF) (by decide) hg⟩
theorem depotref24_Read.Tr_W {u : Value} {W' : List S48} (h : depotref24_Read.Tr base ok0 v0 v1 v2 L F W w) (ho : Kd.R k48 48 w1 base ok0 u W') (hg : w.grownBy w1 v2.ownBlock) (hat : u.ownBlock = v2.ownBlock ∨ ∃ b, u.ownBlock = some b ∧ w.heap.size ≤ b) : depotref24_Read.Tr base ok0 v0 v1 u L F W' w1 := by
  obtain ⟨hN, hF, hW⟩ := h
  have hN1 := Kd.N_after (Kd.N_mono hN (ok' := fun k => (ok0 k ∧ some k ≠ v1.ownBlock) ∧ some k ≠ v2.ownBlock) (fun k hk => ⟨⟨hk.1, hk.2.1⟩, hk.2.2⟩)) hg hat
  exact ⟨Kd.N_mono hN1 (fun k hk => ⟨hk.1.1, hk.1.2, hk.2⟩), Kd.R_over' hF (Kd.R_typed hW) (by decide) hg, ho⟩
theorem depotref24_Read.fresh_ok (h : depotref24_Read.Tr base ok0 v0 v1 v2 L F W w) (hf : ∀ k, w.heap.size ≤ k → ok0 k) (k : Nat) (hk : w.heap.size ≤ k) : (ok0 k ∧ some k ≠ v1.ownBlock ∧ some k ≠ v2.ownBlock) ∧ some k ≠ v0.ownBlock :=
  ⟨⟨hf k hk, fun e => absurd (Kd.R_lt h.2.1 k e.symm) (Nat.not_lt.2 hk), fun e => absurd (Kd.R_lt h.2.2 k e.symm) (Nat.not_lt.2 hk)⟩, fun e => absurd (Kd.N_lt h.1 k e.symm) (Nat.not_lt.2 hk)⟩
theorem depotref24_Read.Stands_below (hb : Below w.heap.size w w1) : depotref24_Read.Stands w w1 := fun _ _ _ _ _ _ h => blk_below h hb
theorem depotref24_Read.Stands_trans {w2 : World} (h : depotref24_Read.Stands w w1) (h2 : depotref24_Read.Stands w1 w2) : depotref24_Read.Stands w w2 := fun g cs t a b c h3 => h2 g cs t a b c (h g cs t a b c h3)
theorem depotref24_Read.Stands_set (h : depotref24_Read.Stands w w1) {b : Nat} (hb : w.heap.size ≤ b) (j : Nat) (u : Value) : depotref24_Read.Stands w (w1.setCell ⟨b, j, none⟩ u) := fun g cs t h1 h2 h3 hq =>
  (Below.heap_setCell w1 ⟨b, j, none⟩ u g (Nat.ne_of_lt (Nat.lt_of_lt_of_le (blk_lt hq) hb))).trans (h g cs t h1 h2 h3 hq)
theorem depotref24_Read.far3 {g b : Nat} {obj : Obj} {u0 u1 u2 : Value} (h : w.heap[g]? = some obj) (hne : g ≠ b) : (((w.setCell ⟨b, 0, none⟩ u0).setCell ⟨b, 1, none⟩ u1).setCell ⟨b, 2, none⟩ u2).heap[g]? = some obj :=
  (Below.heap_setCell _ ⟨b, 2, none⟩ _ g hne).trans ((Below.heap_setCell _ ⟨b, 1, none⟩ _ g hne).trans ((Below.heap_setCell _ ⟨b, 0, none⟩ _ g hne).trans h))
theorem depotref24_Read.Tr_far3 {b : Nat} {u0 u1 u2 : Value} (h : depotref24_Read.Tr base ok0 v0 v1 v2 L F W w) (hne : ∀ k, ok0 k → k ≠ b) : depotref24_Read.Tr base ok0 v0 v1 v2 L F W (((w.setCell ⟨b, 0, none⟩ u0).setCell ⟨b, 1, none⟩ u1).setCell ⟨b, 2, none⟩ u2) :=
  depotref24_Read.Tr_far (depotref24_Read.Tr_far (depotref24_Read.Tr_far h hne 0 _) hne 1 _) hne 2 _
theorem depotref24_Read.R_far3 {b : Nat} {u0 u1 u2 v : Value} {xs : List ByteArray} (h : Kd.R Kd.string 9 w base ok0 v xs) (hne : ∀ k, ok0 k → k ≠ b) : Kd.R Kd.string 9 (((w.setCell ⟨b, 0, none⟩ u0).setCell ⟨b, 1, none⟩ u1).setCell ⟨b, 2, none⟩ u2) base ok0 v xs :=
  Kd.R_far (p := ⟨b, 2, none⟩) (Kd.R_far (p := ⟨b, 1, none⟩) (Kd.R_far (p := ⟨b, 0, none⟩) h hne _) hne _) hne _
theorem depotref24_Read.below_set3 {b : Nat} {u0 u1 u2 : Value} (h : Below w.heap.size w w1) (hb : w.heap.size ≤ b) : Below w.heap.size w (((w1.setCell ⟨b, 0, none⟩ u0).setCell ⟨b, 1, none⟩ u1).setCell ⟨b, 2, none⟩ u2) :=
  below_set (below_set (below_set h hb) hb) hb
theorem depotref24_Read.at3 {ad : Addr} {n : Nat} {x : List S46} (h : Kd.C k46 w (some ad) n x) (y : Nat) (hy : y < n) : w.cell? (ad.add (y * 3)) = some (.string (rd_T46 x (y : Int)).f0) ∧ w.cell? ⟨(ad.add (y * 3)).block, (ad.add (y * 3)).off + 1, none⟩ = some (.int .i64 (rd_T46 x (y : Int)).f1) ∧ w.cell? ⟨(ad.add (y * 3)).block, (ad.add (y * 3)).off + 2, none⟩ = some (.string (rd_T46 x (y : Int)).f2) := by
  obtain ⟨ad', e, h0, h1, h2⟩ := at_T46 h (y : Int) (by omega) (by omega)
  cases e
  simp only [Int.toNat_natCast] at h0 h1 h2
  exact ⟨h0, h1, h2⟩
theorem depotref24_Read.Stands_R {v : Value} {xs : List ByteArray} (h : Kd.R Kd.string 9 w base ok0 v xs) (hs : depotref24_Read.Stands w w1) : Kd.R Kd.string 9 w1 base ok0 v xs := by
  refine Kd.R_mono (Kd.R_step (Kd.R_bound h) (fun k hk _ => ?_)) (fun k hk => hk.1)
  obtain ⟨_, _, _, q, hq, cs, hc⟩ := hk
  have hq : q = 9 := by simpa [Kd.string, Kd.scalar] using hq
  subst hq
  rw [hc]
  exact hs k cs _ (by decide) (by decide) (by decide) hc
end
set_option maxHeartbeats 2000000 in
set_option maxRecDepth 100000 in
theorem depotref24_Read.put_word (w0 w : World) (ok0 : Nat → Prop) (v0 v1 v2 : Value) (L : List (List S46)) (F : List S46) (W : List S48) (hT : depotref24_Read.Tr w0.heap.size ok0 v0 v1 v2 L F W w) (t rest : ByteArray) (h1 : t ≠ ⟨#[105, 110, 115, 116, 97, 108, 108]⟩) (h2 : t ≠ ⟨#[102, 111, 114, 98, 105, 100]⟩) (h3 : t ≠ ⟨#[112, 114, 101, 102, 101, 114]⟩) (h4 : t ≠ ⟨#[97, 118, 111, 105, 100]⟩) :
    Calls Tryd.prog 46 #[.agg #[v0, v1, v2], .string t, .string rest] w fun e w' => e = .returned (.tuple #[.agg #[v0, v1, v2], .int .i64 240]) ∧ Below w.heap.size w w' := by
  obtain ⟨A0, c0, e0⟩ := Kd.N_slice hT.1
  subst e0
  obtain ⟨A1, c1, e1⟩ := Kd.R_slice hT.2.1
  subst e1
  obtain ⟨A2, c2, e2⟩ := Kd.R_slice hT.2.2
  subst e2
  clear hT
  have ne : ∀ (l : List UInt8), t ≠ ⟨l.toArray⟩ → (t.toList == l) = false := by
    intro l h
    refine beq_eq_false_iff_ne.2 (fun e => h ?_)
    rw [← e, ByteArray.toList_eq]
  have e1 := ne _ h1
  have e2 := ne _ h2
  have e3 := ne _ h3
  have e4 := ne _ h4
  have n1 : (t.toList != [105, 110, 115, 116, 97, 108, 108]) = true := by unfold bne; rw [e1]; rfl
  have n2 : (t.toList != [102, 111, 114, 98, 105, 100]) = true := by unfold bne; rw [e2]; rfl
  have n3 : (t.toList != [112, 114, 101, 102, 101, 114]) = true := by unfold bne; rw [e3]; rfl
  have n4 : (t.toList != [97, 118, 111, 105, 100]) = true := by unfold bne; rw [e4]; rfl
  clear ne h1 h2 h3 h4
  go_enter Tryd.func46, Tryd.ntmps46
  go_wp2_with (first | ((with_reducible refine gate_dst (N := 3) rfl ?_); refine box_event ?hg (N := 3) ?hd (cs := #[.slice A0 L.length c0, .slice A1 F.length c1, .slice A2 W.length c2]) (t := 26) ?hr ?_; (case hd => rfl); (case hg => rfl); (case hr => first | (go_simp; done) | (go_simp; rfl)); intro go hgo w3 hbox hb; have BO3 := Aside0.mk hbox; have HB3 := Aside0.mk hb; have GO := Aside0.mk hgo; clear hbox hb hgo) | ((with_reducible refine gate_dst (N := 6) rfl ?_); refine box_event ?hg (N := 6) ?hd (cs := #[.slice none 0 0, .slice none 0 0, .slice none 0 0]) (t := 26) ?hr ?_; (case hd => rfl); (case hg => rfl); (case hr => first | (go_simp; done) | (go_simp; rfl)); intro gr hgr w4 hbox hb; have BO4 := Aside0.mk (blk_below BO3.out hb); have BR4 := Aside0.mk hbox; have HB4 := Aside0.mk (below_step HB3.out hb); have GR := Aside0.mk (show go < gr by rw [hgr]; exact blk_lt BO3.out); clear hbox hb hgr HB3 BO3; have oc0 : w4.cell? ⟨go, 0, none⟩ = some (.slice A0 L.length c0) := (blk_cell BO4.out 0).trans rfl; have oz0 := blk_frozen BO4.out 0; have oc1 : w4.cell? ⟨go, 1, none⟩ = some (.slice A1 F.length c1) := (blk_cell BO4.out 1).trans rfl; have oz1 := blk_frozen BO4.out 1; have oc2 : w4.cell? ⟨go, 2, none⟩ = some (.slice A2 W.length c2) := (blk_cell BO4.out 2).trans rfl; have oz2 := blk_frozen BO4.out 2; have rc0 : w4.cell? ⟨gr, 0, none⟩ = some (.slice none 0 0) := (blk_cell BR4.out 0).trans rfl; have rz0 := blk_frozen BR4.out 0; have rc1 : w4.cell? ⟨gr, 1, none⟩ = some (.slice none 0 0) := (blk_cell BR4.out 1).trans rfl; have rz1 := blk_frozen BR4.out 1; have rc2 : w4.cell? ⟨gr, 2, none⟩ = some (.slice none 0 0) := (blk_cell BR4.out 2).trans rfl; have rz2 := blk_frozen BR4.out 2; have hng : gr ≠ go := Nat.ne_of_gt GR.out; have hnh : go ≠ gr := Nat.ne_of_lt GR.out))
  have HGE := Aside0.mk (show w.heap.size ≤ gr by have h1 := GR.out; have h2 := GO.out; omega)
  refine bodyPost_ret (results_ct rfl _ _ gr 26 #[.slice A0 L.length c0, .slice A1 F.length c1, .slice A2 W.length c2] (0, 0) _ rfl (depotref24_Read.three BR4.out) Tryd.underlying26 rfl (by kernel_rfl)) rfl ?_
  exact ⟨rfl, below_set (below_set (below_set HB4.out HGE.out) HGE.out) HGE.out⟩
set_option maxHeartbeats 2000000 in
set_option maxRecDepth 100000 in
theorem depotref24_Read.put_bare (w0 w : World) (ok0 : Nat → Prop) (v0 v1 v2 : Value) (L : List (List S46)) (F : List S46) (W : List S48) (hT : depotref24_Read.Tr w0.heap.size ok0 v0 v1 v2 L F W w) (t rest : ByteArray) (ht : t = ⟨#[105, 110, 115, 116, 97, 108, 108]⟩ ∨ t = ⟨#[102, 111, 114, 98, 105, 100]⟩ ∨ t = ⟨#[112, 114, 101, 102, 101, 114]⟩ ∨ t = ⟨#[97, 118, 111, 105, 100]⟩) (hr : rest.size = 0) :
    Calls Tryd.prog 46 #[.agg #[v0, v1, v2], .string t, .string rest] w fun e w' => e = .returned (.tuple #[.agg #[v0, v1, v2], .int .i64 240]) ∧ Below w.heap.size w w' := by
  obtain ⟨A0, c0, e0⟩ := Kd.N_slice hT.1
  subst e0
  obtain ⟨A1, c1, e1⟩ := Kd.R_slice hT.2.1
  subst e1
  obtain ⟨A2, c2, e2⟩ := Kd.R_slice hT.2.2
  subst e2
  clear hT
  have z1 : ((rest.size : Int) == 0) = true := by rw [hr]; rfl
  clear hr
  rcases ht with rfl | rfl | rfl | rfl
  all_goals
    go_enter Tryd.func46, Tryd.ntmps46
    go_wp2_with (first | ((with_reducible refine gate_dst (N := 3) rfl ?_); refine box_event ?hg (N := 3) ?hd (cs := #[.slice A0 L.length c0, .slice A1 F.length c1, .slice A2 W.length c2]) (t := 26) ?hr ?_; (case hd => rfl); (case hg => rfl); (case hr => first | (go_simp; done) | (go_simp; rfl)); intro go hgo w3 hbox hb; have BO3 := Aside0.mk hbox; have HB3 := Aside0.mk hb; have GO := Aside0.mk hgo; clear hbox hb hgo) | ((with_reducible refine gate_dst (N := 6) rfl ?_); refine box_event ?hg (N := 6) ?hd (cs := #[.slice none 0 0, .slice none 0 0, .slice none 0 0]) (t := 26) ?hr ?_; (case hd => rfl); (case hg => rfl); (case hr => first | (go_simp; done) | (go_simp; rfl)); intro gr hgr w4 hbox hb; have BO4 := Aside0.mk (blk_below BO3.out hb); have BR4 := Aside0.mk hbox; have HB4 := Aside0.mk (below_step HB3.out hb); have GR := Aside0.mk (show go < gr by rw [hgr]; exact blk_lt BO3.out); clear hbox hb hgr HB3 BO3; have oc0 : w4.cell? ⟨go, 0, none⟩ = some (.slice A0 L.length c0) := (blk_cell BO4.out 0).trans rfl; have oz0 := blk_frozen BO4.out 0; have oc1 : w4.cell? ⟨go, 1, none⟩ = some (.slice A1 F.length c1) := (blk_cell BO4.out 1).trans rfl; have oz1 := blk_frozen BO4.out 1; have oc2 : w4.cell? ⟨go, 2, none⟩ = some (.slice A2 W.length c2) := (blk_cell BO4.out 2).trans rfl; have oz2 := blk_frozen BO4.out 2; have rc0 : w4.cell? ⟨gr, 0, none⟩ = some (.slice none 0 0) := (blk_cell BR4.out 0).trans rfl; have rz0 := blk_frozen BR4.out 0; have rc1 : w4.cell? ⟨gr, 1, none⟩ = some (.slice none 0 0) := (blk_cell BR4.out 1).trans rfl; have rz1 := blk_frozen BR4.out 1; have rc2 : w4.cell? ⟨gr, 2, none⟩ = some (.slice none 0 0) := (blk_cell BR4.out 2).trans rfl; have rz2 := blk_frozen BR4.out 2; have hng : gr ≠ go := Nat.ne_of_gt GR.out; have hnh : go ≠ gr := Nat.ne_of_lt GR.out))
    have HGE := Aside0.mk (show w.heap.size ≤ gr by have h1 := GR.out; have h2 := GO.out; omega)
    refine bodyPost_ret (results_ct rfl _ _ gr 26 #[.slice A0 L.length c0, .slice A1 F.length c1, .slice A2 W.length c2] (0, 0) _ rfl (depotref24_Read.three BR4.out) Tryd.underlying26 rfl (by kernel_rfl)) rfl ?_
    exact ⟨rfl, below_set (below_set (below_set HB4.out HGE.out) HGE.out) HGE.out⟩
set_option maxHeartbeats 2000000 in
set_option maxRecDepth 100000 in
theorem depotref24_Read.put_install (k : Nat) (w0 w : World) (ok0 : Nat → Prop) (v0 v1 v2 : Value) (L : List (List S46)) (F : List S46) (W : List S48) (hT : depotref24_Read.Tr w0.heap.size ok0 v0 v1 v2 L F W w) (hfr : ∀ k, w.heap.size ≤ k → ok0 k) (hB : Below w0.heap.size w0 w) (rest : ByteArray) (hr : rest.size ≠ 0) (r1 : List (List S46)) (r2 r3 : Int) (h : depotref22_Read.f k rest = some (r1, r2, r3)) (hl : (L.length + r1.length) * 24 ≤ 140737488355328) :
    Calls Tryd.prog 46 #[.agg #[v0, v1, v2], .string ⟨#[105, 110, 115, 116, 97, 108, 108]⟩, .string rest] w fun e w' => ∃ u : Value, e = .returned (.tuple #[.agg #[u, v1, v2], .int .i64 r2]) ∧ depotref24_Read.Tr w0.heap.size ok0 u v1 v2 (L ++ r1) F W w' ∧ Below w0.heap.size w0 w' ∧ depotref24_Read.Stands w w' := by
  obtain ⟨A0, c0, e0⟩ := Kd.N_slice hT.1
  subst e0
  obtain ⟨A1, c1, e1⟩ := Kd.R_slice hT.2.1
  subst e1
  obtain ⟨A2, c2, e2⟩ := Kd.R_slice hT.2.2
  subst e2
  have HT := Aside0.mk hT
  have HF := Aside0.mk hfr
  have HB := Aside0.mk hB
  have HL := Aside0.mk hl
  have z1 : ((rest.size : Int) == 0) = false := beq_eq_false_iff_ne.2 (by omega)
  clear hT hfr hB hl hr
  go_enter Tryd.func46, Tryd.ntmps46
  go_wp2_with (first | ((with_reducible refine gate_dst (N := 3) rfl ?_); refine box_event ?hg (N := 3) ?hd (cs := #[.slice A0 L.length c0, .slice A1 F.length c1, .slice A2 W.length c2]) (t := 26) ?hr ?_; (case hd => rfl); (case hg => rfl); (case hr => first | (go_simp; done) | (go_simp; rfl)); intro go hgo w3 hbox hb; have BO3 := Aside0.mk hbox; have HB3 := Aside0.mk hb; have GO := Aside0.mk hgo; clear hbox hb hgo) | ((with_reducible refine gate_dst (N := 6) rfl ?_); refine box_event ?hg (N := 6) ?hd (cs := #[.slice none 0 0, .slice none 0 0, .slice none 0 0]) (t := 26) ?hr ?_; (case hd => rfl); (case hg => rfl); (case hr => first | (go_simp; done) | (go_simp; rfl)); intro gr hgr w4 hbox hb; have BO4 := Aside0.mk (blk_below BO3.out hb); have BR4 := Aside0.mk hbox; have HB4 := Aside0.mk (below_step HB3.out hb); have GR := Aside0.mk (show go < gr by rw [hgr]; exact blk_lt BO3.out); clear hbox hb hgr HB3 BO3; have HT4 := Aside0.mk (depotref24_Read.Tr_mono (ok1 := fun k => ok0 k ∧ k ≠ go ∧ k ≠ gr) (depotref24_Read.Tr_below (depotref24_Read.Tr_bound HT.out) HB4.out) (fun k hk => ⟨hk.1, by have h1 := GO.out; omega, by have h1 := GO.out; have h2 := GR.out; omega⟩)); have HF4 := Aside0.mk (show ∀ k, w4.heap.size ≤ k → ok0 k ∧ k ≠ go ∧ k ≠ gr from fun k hk => ⟨HF.out k (Nat.le_trans HB4.out.size hk), by have h1 := blk_lt BO4.out; omega, by have h1 := blk_lt BR4.out; omega⟩); have HC4 := Aside0.mk (below_then HB.out HB.out.size HB4.out)) | (go_at_call 70; refine (depotref22_Read.calls k rest r1 r2 r3 w4 h).mono ?_; rintro e w5 ⟨v5, rfl, ho5, hb5⟩; obtain ⟨Av, cv, ev⟩ := Kd.R_slice (Kd.S_R ho5); subst ev; have HO5 := Aside0.mk ho5; have BO5 := Aside0.mk (blk_below BO4.out hb5); have BR5 := Aside0.mk (blk_below BR4.out hb5); have HT5 := Aside0.mk (depotref24_Read.Tr_below HT4.out hb5); have HS5 := Aside0.mk (Nat.le_trans HB4.out.size hb5.size); have HB5 := Aside0.mk (below_step HB4.out hb5); have HC5 := Aside0.mk (below_then HC4.out HC4.out.size hb5); have HS45 := Aside0.mk (show w4.heap.size ≤ w5.heap.size from hb5.size); have HF5 := Aside0.mk (fun k (hk : w5.heap.size ≤ k) => HF4.out k (Nat.le_trans hb5.size hk)); clear ho5 hb5; have oc0 : w5.cell? ⟨go, 0, none⟩ = some (.slice A0 L.length c0) := (blk_cell BO5.out 0).trans rfl; have oz0 := blk_frozen BO5.out 0; have oc1 : w5.cell? ⟨go, 1, none⟩ = some (.slice A1 F.length c1) := (blk_cell BO5.out 1).trans rfl; have oz1 := blk_frozen BO5.out 1; have oc2 : w5.cell? ⟨go, 2, none⟩ = some (.slice A2 W.length c2) := (blk_cell BO5.out 2).trans rfl; have oz2 := blk_frozen BO5.out 2) | (at_builtin; refine Go.Proofs.YtmocooihkobdjaaDoor.AppTwo.N_append_rows_two (Kd.slice 46 k46) (w0 := w0) w0.heap.size rfl (.tmp 44) (.tmp 45) 22 22 23 (.slice none 0 0) 24 rfl Tryd.underlying22 Tryd.underlying22 depotref24_Read.info23 rfl (by decide) (by omega) (.slice A0 L.length c0) L r1 _ _ _ (fun k => (ok0 k ∧ k ≠ go ∧ k ≠ gr) ∧ some k ≠ (Value.slice A1 F.length c1).ownBlock ∧ some k ≠ (Value.slice A2 W.length c2).ownBlock) (fun k => ((ok0 k ∧ k ≠ go ∧ k ≠ gr) ∧ some k ≠ (Value.slice A1 F.length c1).ownBlock ∧ some k ≠ (Value.slice A2 W.length c2).ownBlock) ∧ some k ≠ (Value.slice A0 L.length c0).ownBlock) rfl rfl HT5.out.1 (Kd.N_F (Kd.N_mono (Kd.S_N (Kd.S_bound HO5.out)) (fun k hk => depotref24_Read.fresh_ok HT4.out HF4.out k hk.2.1))) (fun k hk => hk) (fun k hk => (depotref24_Read.fresh_ok HT5.out HF5.out k hk).1) HC5.out (below_size HC5.out) HL.out ?_; intro u w6 ho hb hg hat; obtain ⟨L9, hL9⟩ : ∃ L9, L ++ r1 = L9 := ⟨_, rfl⟩; rw [hL9] at ho; have H9 := Aside0.mk hL9; clear hL9; have s0 := Aside0.mk (depotref24_Read.Tr_L HT5.out ho hg); have s2 := Aside0.mk hb; have BO6 := Aside0.mk (blk_grown BO5.out hg (Kd.N_ne HT5.out.1 BO5.out (by decide))); have BR6 := Aside0.mk (blk_grown BR5.out hg (Kd.N_ne HT5.out.1 BR5.out (by decide))); have s1 := Aside0.mk (show depotref24_Read.Stands w w6 from depotref24_Read.Stands_trans (depotref24_Read.Stands_below HB5.out) (fun g cs t h1 _ _ hq => blk_grown hq hg (Kd.N_ne HT5.out.1 hq (Ne.symm h1)))); have s3 := Aside0.mk (show w.heap.size ≤ w6.heap.size from Nat.le_trans HB5.out.size hg.size); obtain ⟨Ao, co, eo⟩ := Kd.N_slice ho; subst eo; clear ho hb hg hat oc0 oz0 oc1 oz1 oc2 oz2; have pc0 : w6.cell? ⟨go, 0, none⟩ = some (.slice A0 L.length c0) := (blk_cell BO6.out 0).trans rfl; have pz0 := blk_frozen BO6.out 0; have pc1 : w6.cell? ⟨go, 1, none⟩ = some (.slice A1 F.length c1) := (blk_cell BO6.out 1).trans rfl; have pz1 := blk_frozen BO6.out 1; have pc2 : w6.cell? ⟨go, 2, none⟩ = some (.slice A2 W.length c2) := (blk_cell BO6.out 2).trans rfl; have pz2 := blk_frozen BO6.out 2; have rc0 : w6.cell? ⟨gr, 0, none⟩ = some (.slice none 0 0) := (blk_cell BR6.out 0).trans rfl; have rz0 := blk_frozen BR6.out 0; have rc1 : w6.cell? ⟨gr, 1, none⟩ = some (.slice none 0 0) := (blk_cell BR6.out 1).trans rfl; have rz1 := blk_frozen BR6.out 1; have rc2 : w6.cell? ⟨gr, 2, none⟩ = some (.slice none 0 0) := (blk_cell BR6.out 2).trans rfl; have rz2 := blk_frozen BR6.out 2; have hng : gr ≠ go := Nat.ne_of_gt GR.out; have hnh : go ≠ gr := Nat.ne_of_lt GR.out))
  have HGO := Aside0.mk (show w.heap.size ≤ go by have h1 := GO.out; omega)
  have HGR := Aside0.mk (show w.heap.size ≤ gr by have h1 := GR.out; have h2 := GO.out; omega)
  have b7 := (Below.heap_setCell w6 ⟨go, 0, none⟩ (.slice Ao L9.length co) gr hng).trans BR6.out
  refine bodyPost_ret (results_ct rfl _ _ gr 26 #[.slice Ao L9.length co, .slice A1 F.length c1, .slice A2 W.length c2] (0, 0) _ rfl (depotref24_Read.three b7) Tryd.underlying26 rfl (by kernel_rfl)) rfl ?_
  rw [H9.out]
  have hz := HB.out.size
  have hx := HGO.out
  have hy := HGR.out
  exact ⟨_, rfl, depotref24_Read.Tr_mono (depotref24_Read.Tr_far (depotref24_Read.Tr_far (depotref24_Read.Tr_far (depotref24_Read.Tr_far s0.out (fun k hk => hk.2.1) 0 _) (fun k hk => hk.2.2) 0 _) (fun k hk => hk.2.2) 1 _) (fun k hk => hk.2.2) 2 _) (fun k hk => hk.1), below_set (below_set (below_set (below_set s2.out (Nat.le_trans hz hx)) (Nat.le_trans hz hy)) (Nat.le_trans hz hy)) (Nat.le_trans hz hy),
    depotref24_Read.Stands_set (depotref24_Read.Stands_set (depotref24_Read.Stands_set (depotref24_Read.Stands_set s1.out hx 0 _) hy 0 _) hy 1 _) hy 2 _⟩
def depotref24_Read.T12 : Bool × List (List Nat × List Nat) := (true, [([], []), ([0], [0]), ([], []), ([], []), ([2, 3], [2, 3]), ([4], [4]), ([5], [5]), ([1, 6], [1, 6]), ([0, 1, 2, 3, 4, 5, 6, 7], []), ([8, 7, 7, 0, 1, 2, 3, 4, 5, 6, 7], [7, 8])])
def depotref24_Read.B12 : List Nat := [0, 1, 0, 0, 12, 28, 60, 127, 255, 511]
theorem depotref24_Read.tab12 : rtab .any (opsOf Tryd.f46 12) = depotref24_Read.T12 := by kernel_rfl
theorem depotref24_Read.bits12 : waitsOk depotref24_Read.T12.2 depotref24_Read.B12 = true := by kernel_rfl
def depotref24_Read.T13 : Bool × List (List Nat × List Nat) := (true, [([], []), ([0], [0]), ([], []), ([2], [2]), ([], []), ([], []), ([4, 5], [4, 5]), ([6], [6]), ([3, 7], [3, 7]), ([8], [8]), ([1, 9], [1, 9]), ([0, 1, 2, 3, 4, 5, 6, 7, 8, 9, 10], []), ([11, 10, 10, 0, 1, 2, 3, 4, 5, 6, 7, 8, 9, 10], [10, 11])])
def depotref24_Read.B13 : List Nat := [0, 1, 0, 4, 0, 0, 48, 112, 252, 508, 1023, 2047, 4095]
theorem depotref24_Read.tab13 : rtab .any (opsOf Tryd.f46 13) = depotref24_Read.T13 := by kernel_rfl
theorem depotref24_Read.bits13 : waitsOk depotref24_Read.T13.2 depotref24_Read.B13 = true := by kernel_rfl
def depotref24_Read.wishes (b : Bool) (x : List S46) : List S48 := x.map fun r => ⟨b, r⟩
set_option maxHeartbeats 2000000 in
set_option maxRecDepth 100000 in
theorem depotref24_Read.put_forbid (k : Nat) (w0 w : World) (ok0 : Nat → Prop) (v0 v1 v2 : Value) (L : List (List S46)) (F : List S46) (W : List S48) (hT : depotref24_Read.Tr w0.heap.size ok0 v0 v1 v2 L F W w) (hfr : ∀ k, w.heap.size ≤ k → ok0 k) (hB : Below w0.heap.size w0 w) (rest : ByteArray) (hr : rest.size ≠ 0) (r1 : List S46) (r2 r3 : Int) (h : depotref22_ReadList.f k rest = some (r1, r2, r3)) (hl : (F.length + r1.length) * 40 ≤ 140737488355328) :
    Calls Tryd.prog 46 #[.agg #[v0, v1, v2], .string ⟨#[102, 111, 114, 98, 105, 100]⟩, .string rest] w fun e w' => ∃ u : Value, e = .returned (.tuple #[.agg #[v0, u, v2], .int .i64 r2]) ∧ depotref24_Read.Tr w0.heap.size ok0 v0 u v2 L (F ++ r1) W w' ∧ Below w0.heap.size w0 w' ∧ depotref24_Read.Stands w w' := by
  obtain ⟨A0, c0, e0⟩ := Kd.N_slice hT.1
  subst e0
  obtain ⟨A1, c1, e1⟩ := Kd.R_slice hT.2.1
  subst e1
  obtain ⟨A2, c2, e2⟩ := Kd.R_slice hT.2.2
  subst e2
  have HT := Aside0.mk hT
  have HF := Aside0.mk hfr
  have HB := Aside0.mk hB
  have HL := Aside0.mk hl
  have z1 : ((rest.size : Int) == 0) = false := beq_eq_false_iff_ne.2 (by omega)
  clear hT hfr hB hl hr
  go_enter Tryd.func46, Tryd.ntmps46
  have hu46 := Tryd.underlying46
  have hu48 := Tryd.underlying48
  go_wp2_with (first | ((with_reducible refine gate_dst (N := 3) rfl ?_); refine box_event ?hg (N := 3) ?hd (cs := #[.slice A0 L.length c0, .slice A1 F.length c1, .slice A2 W.length c2]) (t := 26) ?hr ?_; (case hd => rfl); (case hg => rfl); (case hr => first | (go_simp; done) | (go_simp; rfl)); intro go hgo w3 hbox hb; have BO3 := Aside0.mk hbox; have HB3 := Aside0.mk hb; have GO := Aside0.mk hgo; clear hbox hb hgo) | ((with_reducible refine gate_dst (N := 6) rfl ?_); refine box_event ?hg (N := 6) ?hd (cs := #[.slice none 0 0, .slice none 0 0, .slice none 0 0]) (t := 26) ?hr ?_; (case hd => rfl); (case hg => rfl); (case hr => first | (go_simp; done) | (go_simp; rfl)); intro gr hgr w4 hbox hb; have BO4 := Aside0.mk (blk_below BO3.out hb); have BR4 := Aside0.mk hbox; have HB4 := Aside0.mk (below_step HB3.out hb); have GR := Aside0.mk (show go < gr by rw [hgr]; exact blk_lt BO3.out); clear hbox hb hgr HB3 BO3; have HT4 := Aside0.mk (depotref24_Read.Tr_mono (ok1 := fun k => ok0 k ∧ k ≠ go ∧ k ≠ gr) (depotref24_Read.Tr_below (depotref24_Read.Tr_bound HT.out) HB4.out) (fun k hk => ⟨hk.1, by have h1 := GO.out; omega, by have h1 := GO.out; have h2 := GR.out; omega⟩)); have HF4 := Aside0.mk (show ∀ k, w4.heap.size ≤ k → ok0 k ∧ k ≠ go ∧ k ≠ gr from fun k hk => ⟨HF.out k (Nat.le_trans HB4.out.size hk), by have h1 := blk_lt BO4.out; omega, by have h1 := blk_lt BR4.out; omega⟩); have HC4 := Aside0.mk (below_then HB.out HB.out.size HB4.out)) | (go_at_call 71; refine (depotref22_ReadList.calls k rest r1 r2 r3 w4 h).mono ?_; rintro e w5 ⟨v5, rfl, ho5, hb5⟩; obtain ⟨Av, cv, ev⟩ := Kd.R_slice ho5; subst ev; have HO5 := Aside0.mk ho5; have BO5 := Aside0.mk (blk_below BO4.out hb5); have BR5 := Aside0.mk (blk_below BR4.out hb5); have HT5 := Aside0.mk (depotref24_Read.Tr_below HT4.out hb5); have HS5 := Aside0.mk (Nat.le_trans HB4.out.size hb5.size); have HB5 := Aside0.mk (below_step HB4.out hb5); have HC5 := Aside0.mk (below_then HC4.out HC4.out.size hb5); have HS45 := Aside0.mk (show w4.heap.size ≤ w5.heap.size from hb5.size); have HF5 := Aside0.mk (fun k (hk : w5.heap.size ≤ k) => HF4.out k (Nat.le_trans hb5.size hk)); clear ho5 hb5; have HX := Aside0.mk (Kd.R_F (Kd.R_mono (ok' := fun k => w4.heap.size ≤ k) (Kd.R_bound HO5.out) (fun k hk => hk.2.1)))))
  have HGO := Aside0.mk (show w.heap.size ≤ go by have h1 := GO.out; omega)
  have HGR := Aside0.mk (show w.heap.size ≤ gr by have h1 := GR.out; have h2 := GO.out; omega)
  have HG4 := Aside0.mk (show go < w4.heap.size ∧ gr < w4.heap.size from ⟨blk_lt BO4.out, blk_lt BR4.out⟩)
  have HNG := Aside0.mk (show gr ≠ go from Nat.ne_of_gt GR.out)
  go_loopg [14] r1.length (fun gg s14 wi => ∃ (y : Nat) (u : Value), s14 = .int .i64 (y : Int) ∧ y ≤ r1.length ∧ r1.length - y ≤ gg ∧ Aside0 (wi.heap[go]? = some (.cells #[.slice A0 L.length c0, u, .slice A2 W.length c2] 26 (0, 0))) ∧ Aside0 (wi.heap[gr]? = some (.cells #[.slice none 0 0, .slice none 0 0, .slice none 0 0] 26 (0, 0))) ∧ Aside0 (depotref24_Read.Tr w0.heap.size (fun k => ok0 k ∧ k ≠ go ∧ k ≠ gr) (.slice A0 L.length c0) u (.slice A2 W.length c2) L (F ++ (r1.take y)) W wi) ∧ Aside0 (Below w0.heap.size w0 wi) ∧ Aside0 (depotref24_Read.Stands w wi) ∧ Aside0 (w5.heap.size ≤ wi.heap.size) ∧ Aside0 (∀ k, w4.heap.size ≤ k → k < w5.heap.size → wi.heap[k]? = w5.heap[k]?) ∧ Aside0 (∀ k, w4.heap.size ≤ k → k < w5.heap.size → some k ≠ u.ownBlock))
  case atStart =>
    refine ⟨0, .slice A1 F.length c1, rfl, by omega, by omega, BO5, BR5, ⟨?_⟩, HC5, ⟨depotref24_Read.Stands_below HB5.out⟩, ⟨Nat.le_refl _⟩, ⟨fun k _ _ => rfl⟩, ⟨fun k hk _ e => ?_⟩⟩
    · rw [List.take_zero]
      show depotref24_Read.Tr w0.heap.size _ _ _ _ L (F ++ []) W _
      rw [List.append_nil]
      exact HT5.out
    · exact absurd (Kd.R_lt HT4.out.2.1 k e.symm) (Nat.not_lt.2 hk)
  case round =>
    clear BO5 BR5 HT5 HC5 HB5
    obtain ⟨y, u, rfl, hy, hgy, BO, BR, HTr, HBl, HST, HSZ, HKP, HNE⟩ := hrel
    by_cases hly : y < r1.length
    · obtain ⟨gk2, rfl⟩ : ∃ g, gk = g + 1 := ⟨gk - 1, by omega⟩
      have HY := Aside0.mk (show y + 1 ≤ r1.length ∧ r1.length - (y + 1) ≤ gk2 ∧ wrap64 ((y : Int) + 1) = ((y + 1 : Nat) : Int) by have hl0 := HL.out; refine ⟨by omega, by omega, ?_⟩; unfold wrap64; omega)
      have HW2 := Aside0.mk (show ((F ++ (r1.take y)).length + 1) * 40 ≤ 140737488355328 by have h1 := HL.out; rw [List.length_append]; rw [List.length_take]; omega)
      have h0 : (0 : Int) ≤ (y : Int) := by omega
      have h1 : (y : Int) < (r1.length : Int) := by omega
      obtain ⟨ad, ead, _, _, _⟩ := at_T46 (HX.out wr (fun k hk hlt => HKP.out k hk hlt)) (y : Int) h0 h1
      cases ead
      obtain ⟨hx0, hx1, hx2⟩ := depotref24_Read.at3 (HX.out wr (fun k hk hlt => HKP.out k hk hlt)) y hly
      have q0 : decide ((y : Int) < (r1.length : Int)) = true := decide_eq_true h1
      have q1 := eq_true h0
      have q2 := eq_true h1
      have HO := Aside0.mk (show r1.take (y + 1) = r1.take y ++ [rd_T46 r1 (y : Int)] by rw [List.take_succ_eq_append_getElem hly]; congr 2; unfold rd_T46; rw [Int.toNat_natCast, List.getD_eq_getElem?_getD, List.getElem?_eq_getElem hly, Option.getD_some])
      have hc2 : wr.cell? ⟨go, 1, none⟩ = some u := (blk_cell BO.out 1).trans rfl
      have hz2 := blk_frozen BO.out 1
      have hn2 : wr.heap.size ≠ go := by have h2 := blk_lt BO.out; omega
      have hn3 : wr.heap.size ≠ gr := by have h2 := blk_lt BR.out; omega
      have hn5 := hn2.symm
      have hn6 := hn3.symm
      clear h0 h1
      go_wp2
      have hb0 : Below wr.heap.size wr wr.drew := below_drew1 (Below.refl _ _)
      refine start_ (n := 10) (S := fun w' => w'.cell? ⟨go, 1, none⟩ = some u ∧ w'.cell? (ad.add (y * 3)) = some (.string (rd_T46 r1 (y : Int)).f0) ∧ w'.cell? ⟨(ad.add (y * 3)).block, (ad.add (y * 3)).off + 1, none⟩ = some (.int .i64 (rd_T46 r1 (y : Int)).f1) ∧ w'.cell? ⟨(ad.add (y * 3)).block, (ad.add (y * 3)).off + 2, none⟩ = some (.string (rd_T46 r1 (y : Int)).f2)) (ds := [9]) #[false, false, false, false, false, false, false, false, false, false] (by kernel_rfl) rfl rfl ⟨hc2, hx0, hx1, hx2⟩ (fun hHeld => ?_); refine with_tabW depotref24_Read.tab12 depotref24_Read.bits12 (fun HT_ HW_ => ?_)
      generalize wr.drew = w50 at hb0 hHeld ⊢
      have HB0 := Aside0.mk hb0
      have N0 := Aside0.mk (depotref24_Read.Tr_below HTr.out hb0)
      have N1 := Aside0.mk (blk_below BO.out hb0)
      have N3 := Aside0.mk (blk_below BR.out hb0)
      have N2 := Aside0.mk (below_then HBl.out HBl.out.size hb0)
      have KP0 := Aside0.mk (show ∀ k, w4.heap.size ≤ k → k < w5.heap.size → w50.heap[k]? = w5.heap[k]? from fun k hk hlt => (hb0.block k (Nat.lt_of_lt_of_le hlt HSZ.out)).trans (HKP.out k hk hlt))
      have HZ0 := Aside0.mk (show w5.heap.size ≤ w50.heap.size from Nat.le_trans HSZ.out hb0.size)
      have HFR := Aside0.mk (show ∀ k, w50.heap.size ≤ k → ok0 k ∧ k ≠ go ∧ k ≠ gr from fun k hk => HF5.out k (Nat.le_trans HZ0.out hk))
      clear hb0
      refine pure_ (i := 0) (N := some 64) (v := ?_) (a' := ?_) #[true, false, false, false, false, false, false, false, false, false] rfl rfl (any_of HT_.out (by kernel_rfl)) (fun _ _ _ h => h) (Or.inl ⟨by rfl, ?_⟩) ?_ ?_
      rotate_left
      · intro w'
        go_simp
        with_reducible rfl
      rotate_left
      · simp only [Act.put, List.setIfInBounds_toArray, List.set_cons_zero, List.set_cons_succ, i64_w, i32_w]
        rfl
      refine pure_ (i := 2) (N := some 66) (v := ?_) (a' := ?_) #[true, false, true, false, false, false, false, false, false, false] rfl rfl (any_of HT_.out (by kernel_rfl)) (fun _ _ _ h => h) (Or.inl ⟨by rfl, ?_⟩) ?_ ?_
      rotate_left
      · intro w'
        go_simp
        with_reducible rfl
      rotate_left
      · simp only [Act.put, List.setIfInBounds_toArray, List.set_cons_zero, List.set_cons_succ, i64_w, i32_w]
        rfl
      refine pure_ (i := 3) (N := some 67) (v := ?_) (a' := ?_) #[true, false, true, true, false, false, false, false, false, false] rfl rfl (any_of HT_.out (by kernel_rfl)) (fun _ _ _ h => h) (Or.inl ⟨by rfl, ?_⟩) ?_ ?_
      rotate_left
      · intro w'
        go_simp
        with_reducible rfl
      rotate_left
      · simp only [Act.put, List.setIfInBounds_toArray, List.set_cons_zero, List.set_cons_succ, i64_w, i32_w]
        rfl
      refine pure_ (i := 4) (N := some 68) (v := ?_) (a' := ?_) #[true, false, true, true, true, false, false, false, false, false] rfl rfl (any_of HT_.out (by kernel_rfl)) (fun _ _ _ h => h) (Or.inl ⟨by rfl, ?_⟩) ?_ ?_
      rotate_left
      · intro w'
        go_simp
        with_reducible rfl
      rotate_left
      · simp only [Act.put, List.setIfInBounds_toArray, List.set_cons_zero, List.set_cons_succ, i64_w, i32_w]
        rfl
      refine take_ (i := 1) (N := some 65) (v := ?_) (a' := ?_) #[true, true, true, true, true, false, false, false, false, false] rfl rfl (take_ofW HT_.out HW_.out (by kernel_rfl)) (fun _ _ _ h => h) (Or.inl ⟨by rfl, ?_⟩) hHeld ?_ ?_
      rotate_left
      · rintro w' ⟨s0, s1, s2, s3⟩
        go_simp
        with_reducible rfl
      rotate_left
      · simp only [Act.put, List.setIfInBounds_toArray, List.set_cons_zero, List.set_cons_succ, i64_w, i32_w]
        rfl
      refine take_ (i := 5) (N := some 69) (v := ?_) (a' := ?_) #[true, true, true, true, true, true, false, false, false, false] rfl rfl (take_ofW HT_.out HW_.out (by kernel_rfl)) (fun _ _ _ h => h) (Or.inl ⟨by rfl, ?_⟩) hHeld ?_ ?_
      rotate_left
      · rintro w' ⟨s0, s1, s2, s3⟩
        go_simp
        with_reducible rfl
      rotate_left
      · simp only [Act.put, List.setIfInBounds_toArray, List.set_cons_zero, List.set_cons_succ, i64_w, i32_w]
        rfl
      refine one_ (i := 6) (N := some 70) #[true, true, true, true, true, true, true, false, false, false] rfl rfl (one_of HT_.out (by kernel_rfl)) (by decide) (fun K hK => ?_)
      refine value_ (w1 := ?_) (v := ?_) (by rfl) rfl ?_ ?_
      rotate_left 2
      · go_simp
        constructor
        · rfl
        · rfl
      refine hK.out _ _ ⟨(blk_cell (blk_alloc N1.out _) 1).trans rfl, depotref24_Read.at3 (HX.out _ (fun k hk hlt => (Below.heap_alloc w50 _ k (Nat.lt_of_lt_of_le hlt HZ0.out)).trans (KP0.out k hk hlt))) y hly⟩ (fun hHeld => ?_)
      clear hK K
      refine norm_ (a' := ?_) ?_ ?_
      rotate_left
      · show Act.put _ (some 70) _ = _
        simp only [Act.put, List.setIfInBounds_toArray, List.set_cons_zero, List.set_cons_succ, i64_w, i32_w]
        rfl
      refine one_ (i := 7) (N := some 71) #[true, true, true, true, true, true, true, true, false, false] rfl rfl (one_of HT_.out (by kernel_rfl)) (by decide) (fun K hK => ?_)
      refine Kd.R_append_step k46 (w0 := w0) w0.heap.size (by rfl) (.tmp 65) (.tmp 70) 23 46 (.agg #[(.string ⟨#[]⟩), (.int .i64 0), (.string ⟨#[]⟩)]) 40 rfl Tryd.underlying23 depotref24_Read.info46 rfl (by decide) (by omega) u (F ++ (r1.take y)) (rd_T46 r1 (y : Int)) [.string (rd_T46 r1 (y : Int)).f0, .int .i64 (rd_T46 r1 (y : Int)).f1, .string (rd_T46 r1 (y : Int)).f2] (fun k => ok0 k ∧ k ≠ go ∧ k ≠ gr) (fun _ => False) rfl rfl (k46_mkM _ _ _ (rd_T46 r1 (y : Int))) (fun _ hk => hk.elim) (fun k hk => HFR.out k hk) N0.out.2.1 N2.out (below_size N2.out) HW2.out ?_
      intro u9 w52 ho hb hg hat
      obtain ⟨L9, hL9⟩ : ∃ L9, (F ++ (r1.take y)) ++ [(rd_T46 r1 (y : Int))] = L9 := ⟨_, rfl⟩
      rw [hL9] at ho
      have H9 := Aside0.mk hL9
      clear hL9
      have s0 := Aside0.mk (depotref24_Read.Tr_F N0.out ho hg hat)
      have s2 := Aside0.mk hb
      have s1 := Aside0.mk (show depotref24_Read.Stands w w52 from depotref24_Read.Stands_trans (depotref24_Read.Stands_trans HST.out (depotref24_Read.Stands_below HB0.out)) (fun g cs t h1 h2 h3 hq => blk_grown hq hg (Kd.R_ne N0.out.2.1 hq (Ne.symm h2))))
      have hbo := blk_grown N1.out hg (Kd.R_ne N0.out.2.1 N1.out (by decide))
      have hbr := blk_grown N3.out hg (Kd.R_ne N0.out.2.1 N3.out (by decide))
      have s3 := Aside0.mk (show ∀ k, w4.heap.size ≤ k → k < w5.heap.size → w52.heap[k]? = w5.heap[k]? from fun k hk hlt => (hg.block k (Nat.lt_of_lt_of_le hlt HZ0.out) (HNE.out k hk hlt)).trans (KP0.out k hk hlt))
      have s4 := Aside0.mk (show ∀ k, w4.heap.size ≤ k → k < w5.heap.size → some k ≠ u9.ownBlock from fun k hk hlt e => by
        rcases hat with h | ⟨q, h, hle⟩
        · exact HNE.out k hk hlt (e.trans h)
        · rw [h] at e
          injection e with e
          have h8 := HZ0.out
          omega)
      have s5 := Aside0.mk (show w5.heap.size ≤ w52.heap.size from Nat.le_trans HZ0.out hg.size)
      have BO9 := Aside0.mk hbo
      have BR9 := Aside0.mk hbr
      obtain ⟨Ao, co, eo⟩ := Kd.R_slice ho
      subst eo
      clear ho hb hg hat
      refine hK.out _ _ ⟨(blk_cell hbo 1).trans rfl, depotref24_Read.at3 (HX.out _ (fun k hk hlt => s3.out k hk hlt)) y hly⟩ (fun hHeld => ?_)
      clear hK K
      refine norm_ (a' := ?_) ?_ ?_
      rotate_left
      · show Act.put _ (some 71) _ = _
        simp only [Act.put, List.setIfInBounds_toArray, List.set_cons_zero, List.set_cons_succ, i64_w, i32_w]
        rfl
      refine pure_ (i := 8) (N := some 72) (v := ?_) (a' := ?_) #[true, true, true, true, true, true, true, true, true, false] rfl rfl (any_of HT_.out (by kernel_rfl)) (fun _ _ _ h => h) (Or.inl ⟨by rfl, ?_⟩) ?_ ?_
      rotate_left
      · intro w'
        go_simp
        with_reducible rfl
      rotate_left
      · simp only [Act.put, List.setIfInBounds_toArray, List.set_cons_zero, List.set_cons_succ, i64_w, i32_w]
        rfl
      refine last_ (i := 9) (N := none) #[true, true, true, true, true, true, true, true, true, true] rfl rfl (one_of HT_.out (by kernel_rfl)) (by decide) (fun K hK => ?_)
      have hs55 : w52.cell? ⟨go, 1, none⟩ = some u := (blk_cell hbo 1).trans rfl
      have hfs55 := blk_frozen hbo 1
      refine skip_ (w1 := ?_) (by rfl) rfl ?_ ?_
      rotate_left
      · go_simp
        rfl
      refine hK.out _ _ ?_
      clear hK K
      refine done_ (done_of HT_.out (by kernel_rfl)) ?_
      try go_wp2
      have HGOk := Aside0.mk (show ∀ k, w4.heap.size ≤ k → k ≠ go from fun k hk => by have h1 := HG4.out.1; omega)
      go_roundg gk2
      case measure => exact Nat.lt_succ_self gk2
      case rel =>
        have e : (F ++ (r1.take (y + 1))) = L9 := by
          rw [← H9.out, HO.out]
          rw [List.append_assoc]
        refine ⟨y + 1, .slice Ao L9.length co, (by first | exact congrArg (Value.int .i64) HY.out.2.2 | rfl), HY.out.1, HY.out.2.1, ⟨blk_put BO9.out 1 _ rfl⟩, ⟨(Below.heap_setCell w52 ⟨go, 1, none⟩ _ gr HNG.out).trans BR9.out⟩, ⟨?_⟩, ⟨below_set s2.out (Nat.le_trans HB.out.size HGO.out)⟩, ⟨depotref24_Read.Stands_set s1.out HGO.out 1 _⟩, ⟨by show w5.heap.size ≤ (w52.setCell _ _).heap.size; rw [World.size_setCell]; exact s5.out⟩, ⟨fun k hk hlt => (Below.heap_setCell w52 ⟨go, 1, none⟩ _ k (HGOk.out k hk)).trans (s3.out k hk hlt)⟩, s4⟩
        rw [e]
        exact depotref24_Read.Tr_far s0.out (fun k hk => hk.2.1) 1 _
    · have q0 : decide ((y : Int) < (r1.length : Int)) = false := decide_eq_false (by omega)
      have q2 : ((y : Int) < (r1.length : Int)) = False := eq_false (by omega)
      obtain rfl : y = r1.length := by omega
      rw [List.take_length] at HTr
      obtain ⟨Ao, co, eo⟩ := Kd.R_slice HTr.out.2.1
      subst eo
      obtain ⟨L9, hL9⟩ : ∃ L9, (F ++ r1) = L9 := ⟨_, rfl⟩
      rw [hL9] at HTr BO
      have H9 := Aside0.mk hL9
      clear hL9
      have hng := HNG.out
      have hnh := Ne.symm HNG.out
      have oc0 : wr.cell? ⟨go, 0, none⟩ = some (.slice A0 L.length c0) := (blk_cell BO.out 0).trans rfl; have oz0 := blk_frozen BO.out 0; have oc1 : wr.cell? ⟨go, 1, none⟩ = some (.slice Ao L9.length co) := (blk_cell BO.out 1).trans rfl; have oz1 := blk_frozen BO.out 1; have oc2 : wr.cell? ⟨go, 2, none⟩ = some (.slice A2 W.length c2) := (blk_cell BO.out 2).trans rfl; have oz2 := blk_frozen BO.out 2
      have rc0 : wr.cell? ⟨gr, 0, none⟩ = some (.slice none 0 0) := (blk_cell BR.out 0).trans rfl; have rz0 := blk_frozen BR.out 0; have rc1 : wr.cell? ⟨gr, 1, none⟩ = some (.slice none 0 0) := (blk_cell BR.out 1).trans rfl; have rz1 := blk_frozen BR.out 1; have rc2 : wr.cell? ⟨gr, 2, none⟩ = some (.slice none 0 0) := (blk_cell BR.out 2).trans rfl; have rz2 := blk_frozen BR.out 2
      go_wp2
      have hz := HB.out.size
      have hx := HGO.out
      have hy := HGR.out
      refine bodyPost_ret (results_ct rfl _ _ gr 26 #[.slice A0 L.length c0, .slice Ao L9.length co, .slice A2 W.length c2] (0, 0) _ rfl (depotref24_Read.three BR.out) Tryd.underlying26 rfl (by kernel_rfl)) rfl ?_
      rw [H9.out]
      exact ⟨_, rfl, depotref24_Read.Tr_mono (depotref24_Read.Tr_far (depotref24_Read.Tr_far (depotref24_Read.Tr_far HTr.out (fun k hk => hk.2.2) 0 _) (fun k hk => hk.2.2) 1 _) (fun k hk => hk.2.2) 2 _) (fun k hk => hk.1), below_set (below_set (below_set HBl.out (Nat.le_trans hz hy)) (Nat.le_trans hz hy)) (Nat.le_trans hz hy),
        depotref24_Read.Stands_set (depotref24_Read.Stands_set (depotref24_Read.Stands_set HST.out hy 0 _) hy 1 _) hy 2 _⟩
set_option maxHeartbeats 2000000 in
set_option maxRecDepth 100000 in
theorem depotref24_Read.put_prefer (k : Nat) (w0 w : World) (ok0 : Nat → Prop) (v0 v1 v2 : Value) (L : List (List S46)) (F : List S46) (W : List S48) (hT : depotref24_Read.Tr w0.heap.size ok0 v0 v1 v2 L F W w) (hfr : ∀ k, w.heap.size ≤ k → ok0 k) (hB : Below w0.heap.size w0 w) (rest : ByteArray) (hr : rest.size ≠ 0) (r1 : List S46) (r2 r3 : Int) (h : depotref22_ReadList.f k rest = some (r1, r2, r3)) (hl : (W.length + r1.length) * 48 ≤ 140737488355328) :
    Calls Tryd.prog 46 #[.agg #[v0, v1, v2], .string ⟨#[112, 114, 101, 102, 101, 114]⟩, .string rest] w fun e w' => ∃ u : Value, e = .returned (.tuple #[.agg #[v0, v1, u], .int .i64 r2]) ∧ depotref24_Read.Tr w0.heap.size ok0 v0 v1 u L F (W ++ depotref24_Read.wishes false r1) w' ∧ Below w0.heap.size w0 w' ∧ depotref24_Read.Stands w w' := by
  obtain ⟨A0, c0, e0⟩ := Kd.N_slice hT.1
  subst e0
  obtain ⟨A1, c1, e1⟩ := Kd.R_slice hT.2.1
  subst e1
  obtain ⟨A2, c2, e2⟩ := Kd.R_slice hT.2.2
  subst e2
  have HT := Aside0.mk hT
  have HF := Aside0.mk hfr
  have HB := Aside0.mk hB
  have HL := Aside0.mk hl
  have z1 : ((rest.size : Int) == 0) = false := beq_eq_false_iff_ne.2 (by omega)
  clear hT hfr hB hl hr
  go_enter Tryd.func46, Tryd.ntmps46
  have hu46 := Tryd.underlying46
  have hu48 := Tryd.underlying48
  go_wp2_with (first | ((with_reducible refine gate_dst (N := 3) rfl ?_); refine box_event ?hg (N := 3) ?hd (cs := #[.slice A0 L.length c0, .slice A1 F.length c1, .slice A2 W.length c2]) (t := 26) ?hr ?_; (case hd => rfl); (case hg => rfl); (case hr => first | (go_simp; done) | (go_simp; rfl)); intro go hgo w3 hbox hb; have BO3 := Aside0.mk hbox; have HB3 := Aside0.mk hb; have GO := Aside0.mk hgo; clear hbox hb hgo) | ((with_reducible refine gate_dst (N := 6) rfl ?_); refine box_event ?hg (N := 6) ?hd (cs := #[.slice none 0 0, .slice none 0 0, .slice none 0 0]) (t := 26) ?hr ?_; (case hd => rfl); (case hg => rfl); (case hr => first | (go_simp; done) | (go_simp; rfl)); intro gr hgr w4 hbox hb; have BO4 := Aside0.mk (blk_below BO3.out hb); have BR4 := Aside0.mk hbox; have HB4 := Aside0.mk (below_step HB3.out hb); have GR := Aside0.mk (show go < gr by rw [hgr]; exact blk_lt BO3.out); clear hbox hb hgr HB3 BO3; have HT4 := Aside0.mk (depotref24_Read.Tr_mono (ok1 := fun k => ok0 k ∧ k ≠ go ∧ k ≠ gr) (depotref24_Read.Tr_below (depotref24_Read.Tr_bound HT.out) HB4.out) (fun k hk => ⟨hk.1, by have h1 := GO.out; omega, by have h1 := GO.out; have h2 := GR.out; omega⟩)); have HF4 := Aside0.mk (show ∀ k, w4.heap.size ≤ k → ok0 k ∧ k ≠ go ∧ k ≠ gr from fun k hk => ⟨HF.out k (Nat.le_trans HB4.out.size hk), by have h1 := blk_lt BO4.out; omega, by have h1 := blk_lt BR4.out; omega⟩); have HC4 := Aside0.mk (below_then HB.out HB.out.size HB4.out)) | (go_at_call 71; refine (depotref22_ReadList.calls k rest r1 r2 r3 w4 h).mono ?_; rintro e w5 ⟨v5, rfl, ho5, hb5⟩; obtain ⟨Av, cv, ev⟩ := Kd.R_slice ho5; subst ev; have HO5 := Aside0.mk ho5; have BO5 := Aside0.mk (blk_below BO4.out hb5); have BR5 := Aside0.mk (blk_below BR4.out hb5); have HT5 := Aside0.mk (depotref24_Read.Tr_below HT4.out hb5); have HS5 := Aside0.mk (Nat.le_trans HB4.out.size hb5.size); have HB5 := Aside0.mk (below_step HB4.out hb5); have HC5 := Aside0.mk (below_then HC4.out HC4.out.size hb5); have HS45 := Aside0.mk (show w4.heap.size ≤ w5.heap.size from hb5.size); have HF5 := Aside0.mk (fun k (hk : w5.heap.size ≤ k) => HF4.out k (Nat.le_trans hb5.size hk)); clear ho5 hb5; have HX := Aside0.mk (Kd.R_F (Kd.R_mono (ok' := fun k => w4.heap.size ≤ k) (Kd.R_bound HO5.out) (fun k hk => hk.2.1)))))
  have HGO := Aside0.mk (show w.heap.size ≤ go by have h1 := GO.out; omega)
  have HGR := Aside0.mk (show w.heap.size ≤ gr by have h1 := GR.out; have h2 := GO.out; omega)
  have HG4 := Aside0.mk (show go < w4.heap.size ∧ gr < w4.heap.size from ⟨blk_lt BO4.out, blk_lt BR4.out⟩)
  have HNG := Aside0.mk (show gr ≠ go from Nat.ne_of_gt GR.out)
  go_loopg [14] r1.length (fun gg s14 wi => ∃ (y : Nat) (u : Value), s14 = .int .i64 (y : Int) ∧ y ≤ r1.length ∧ r1.length - y ≤ gg ∧ Aside0 (wi.heap[go]? = some (.cells #[.slice A0 L.length c0, .slice A1 F.length c1, u] 26 (0, 0))) ∧ Aside0 (wi.heap[gr]? = some (.cells #[.slice none 0 0, .slice none 0 0, .slice none 0 0] 26 (0, 0))) ∧ Aside0 (depotref24_Read.Tr w0.heap.size (fun k => ok0 k ∧ k ≠ go ∧ k ≠ gr) (.slice A0 L.length c0) (.slice A1 F.length c1) u L F (W ++ depotref24_Read.wishes false (r1.take y)) wi) ∧ Aside0 (Below w0.heap.size w0 wi) ∧ Aside0 (depotref24_Read.Stands w wi) ∧ Aside0 (w5.heap.size ≤ wi.heap.size) ∧ Aside0 (∀ k, w4.heap.size ≤ k → k < w5.heap.size → wi.heap[k]? = w5.heap[k]?) ∧ Aside0 (∀ k, w4.heap.size ≤ k → k < w5.heap.size → some k ≠ u.ownBlock))
  case atStart =>
    refine ⟨0, .slice A2 W.length c2, rfl, by omega, by omega, BO5, BR5, ⟨?_⟩, HC5, ⟨depotref24_Read.Stands_below HB5.out⟩, ⟨Nat.le_refl _⟩, ⟨fun k _ _ => rfl⟩, ⟨fun k hk _ e => ?_⟩⟩
    · rw [List.take_zero]
      show depotref24_Read.Tr w0.heap.size _ _ _ _ L F (W ++ []) _
      rw [List.append_nil]
      exact HT5.out
    · exact absurd (Kd.R_lt HT4.out.2.2 k e.symm) (Nat.not_lt.2 hk)
  case round =>
    clear BO5 BR5 HT5 HC5 HB5
    obtain ⟨y, u, rfl, hy, hgy, BO, BR, HTr, HBl, HST, HSZ, HKP, HNE⟩ := hrel
    by_cases hly : y < r1.length
    · obtain ⟨gk2, rfl⟩ : ∃ g, gk = g + 1 := ⟨gk - 1, by omega⟩
      have HY := Aside0.mk (show y + 1 ≤ r1.length ∧ r1.length - (y + 1) ≤ gk2 ∧ wrap64 ((y : Int) + 1) = ((y + 1 : Nat) : Int) by have hl0 := HL.out; refine ⟨by omega, by omega, ?_⟩; unfold wrap64; omega)
      have HW2 := Aside0.mk (show ((W ++ depotref24_Read.wishes false (r1.take y)).length + 1) * 48 ≤ 140737488355328 by have h1 := HL.out; rw [List.length_append]; unfold depotref24_Read.wishes; rw [List.length_map, List.length_take]; omega)
      have h0 : (0 : Int) ≤ (y : Int) := by omega
      have h1 : (y : Int) < (r1.length : Int) := by omega
      obtain ⟨ad, ead, _, _, _⟩ := at_T46 (HX.out wr (fun k hk hlt => HKP.out k hk hlt)) (y : Int) h0 h1
      cases ead
      obtain ⟨hx0, hx1, hx2⟩ := depotref24_Read.at3 (HX.out wr (fun k hk hlt => HKP.out k hk hlt)) y hly
      have q0 : decide ((y : Int) < (r1.length : Int)) = true := decide_eq_true h1
      have q1 := eq_true h0
      have q2 := eq_true h1
      have HO := Aside0.mk (show r1.take (y + 1) = r1.take y ++ [rd_T46 r1 (y : Int)] by rw [List.take_succ_eq_append_getElem hly]; congr 2; unfold rd_T46; rw [Int.toNat_natCast, List.getD_eq_getElem?_getD, List.getElem?_eq_getElem hly, Option.getD_some])
      have hc2 : wr.cell? ⟨go, 2, none⟩ = some u := (blk_cell BO.out 2).trans rfl
      have hz2 := blk_frozen BO.out 2
      have hn2 : wr.heap.size ≠ go := by have h2 := blk_lt BO.out; omega
      have hn3 : wr.heap.size ≠ gr := by have h2 := blk_lt BR.out; omega
      have hn5 := hn2.symm
      have hn6 := hn3.symm
      clear h0 h1
      go_wp2
      have hb0 : Below wr.heap.size wr wr.drew := below_drew1 (Below.refl _ _)
      refine start_ (n := 13) (S := fun w' => w'.cell? ⟨go, 2, none⟩ = some u ∧ w'.cell? (ad.add (y * 3)) = some (.string (rd_T46 r1 (y : Int)).f0) ∧ w'.cell? ⟨(ad.add (y * 3)).block, (ad.add (y * 3)).off + 1, none⟩ = some (.int .i64 (rd_T46 r1 (y : Int)).f1) ∧ w'.cell? ⟨(ad.add (y * 3)).block, (ad.add (y * 3)).off + 2, none⟩ = some (.string (rd_T46 r1 (y : Int)).f2)) (ds := [12]) #[false, false, false, false, false, false, false, false, false, false, false, false, false] (by kernel_rfl) rfl rfl ⟨hc2, hx0, hx1, hx2⟩ (fun hHeld => ?_); refine with_tabW depotref24_Read.tab13 depotref24_Read.bits13 (fun HT_ HW_ => ?_)
      generalize wr.drew = w50 at hb0 hHeld ⊢
      have HB0 := Aside0.mk hb0
      have N0 := Aside0.mk (depotref24_Read.Tr_below HTr.out hb0)
      have N1 := Aside0.mk (blk_below BO.out hb0)
      have N3 := Aside0.mk (blk_below BR.out hb0)
      have N2 := Aside0.mk (below_then HBl.out HBl.out.size hb0)
      have KP0 := Aside0.mk (show ∀ k, w4.heap.size ≤ k → k < w5.heap.size → w50.heap[k]? = w5.heap[k]? from fun k hk hlt => (hb0.block k (Nat.lt_of_lt_of_le hlt HSZ.out)).trans (HKP.out k hk hlt))
      have HZ0 := Aside0.mk (show w5.heap.size ≤ w50.heap.size from Nat.le_trans HSZ.out hb0.size)
      have HFR := Aside0.mk (show ∀ k, w50.heap.size ≤ k → ok0 k ∧ k ≠ go ∧ k ≠ gr from fun k hk => HF5.out k (Nat.le_trans HZ0.out hk))
      clear hb0
      refine pure_ (i := 0) (N := some 73) (v := ?_) (a' := ?_) #[true, false, false, false, false, false, false, false, false, false, false, false, false] rfl rfl (any_of HT_.out (by kernel_rfl)) (fun _ _ _ h => h) (Or.inl ⟨by rfl, ?_⟩) ?_ ?_
      rotate_left
      · intro w'
        go_simp
        with_reducible rfl
      rotate_left
      · simp only [Act.put, List.setIfInBounds_toArray, List.set_cons_zero, List.set_cons_succ, i64_w, i32_w]
        rfl
      refine pure_ (i := 2) (N := some 75) (v := ?_) (a' := ?_) #[true, false, true, false, false, false, false, false, false, false, false, false, false] rfl rfl (any_of HT_.out (by kernel_rfl)) (fun _ _ _ h => h) (Or.inl ⟨by rfl, ?_⟩) ?_ ?_
      rotate_left
      · intro w'
        go_simp
        with_reducible rfl
      rotate_left
      · simp only [Act.put, List.setIfInBounds_toArray, List.set_cons_zero, List.set_cons_succ, i64_w, i32_w]
        rfl
      refine pure_ (i := 3) (N := some 76) (v := ?_) (a' := ?_) #[true, false, true, true, false, false, false, false, false, false, false, false, false] rfl rfl (any_of HT_.out (by kernel_rfl)) (fun _ _ _ h => h) (Or.inl ⟨by rfl, ?_⟩) ?_ ?_
      rotate_left
      · intro w'
        go_simp
        with_reducible rfl
      rotate_left
      · simp only [Act.put, List.setIfInBounds_toArray, List.set_cons_zero, List.set_cons_succ, i64_w, i32_w]
        rfl
      refine pure_ (i := 4) (N := some 77) (v := ?_) (a' := ?_) #[true, false, true, true, true, false, false, false, false, false, false, false, false] rfl rfl (any_of HT_.out (by kernel_rfl)) (fun _ _ _ h => h) (Or.inl ⟨by rfl, ?_⟩) ?_ ?_
      rotate_left
      · intro w'
        go_simp
        with_reducible rfl
      rotate_left
      · simp only [Act.put, List.setIfInBounds_toArray, List.set_cons_zero, List.set_cons_succ, i64_w, i32_w]
        rfl
      refine pure_ (i := 5) (N := some 78) (v := ?_) (a' := ?_) #[true, false, true, true, true, true, false, false, false, false, false, false, false] rfl rfl (any_of HT_.out (by kernel_rfl)) (fun _ _ _ h => h) (Or.inl ⟨by rfl, ?_⟩) ?_ ?_
      rotate_left
      · intro w'
        go_simp
        with_reducible rfl
      rotate_left
      · simp only [Act.put, List.setIfInBounds_toArray, List.set_cons_zero, List.set_cons_succ, i64_w, i32_w]
        rfl
      refine pure_ (i := 6) (N := some 79) (v := ?_) (a' := ?_) #[true, false, true, true, true, true, true, false, false, false, false, false, false] rfl rfl (any_of HT_.out (by kernel_rfl)) (fun _ _ _ h => h) (Or.inl ⟨by rfl, ?_⟩) ?_ ?_
      rotate_left
      · intro w'
        go_simp
        with_reducible rfl
      rotate_left
      · simp only [Act.put, List.setIfInBounds_toArray, List.set_cons_zero, List.set_cons_succ, i64_w, i32_w]
        rfl
      refine take_ (i := 1) (N := some 74) (v := ?_) (a' := ?_) #[true, true, true, true, true, true, true, false, false, false, false, false, false] rfl rfl (take_ofW HT_.out HW_.out (by kernel_rfl)) (fun _ _ _ h => h) (Or.inl ⟨by rfl, ?_⟩) hHeld ?_ ?_
      rotate_left
      · rintro w' ⟨s0, s1, s2, s3⟩
        go_simp
        with_reducible rfl
      rotate_left
      · simp only [Act.put, List.setIfInBounds_toArray, List.set_cons_zero, List.set_cons_succ, i64_w, i32_w]
        rfl
      refine take_ (i := 7) (N := some 80) (v := ?_) (a' := ?_) #[true, true, true, true, true, true, true, true, false, false, false, false, false] rfl rfl (take_ofW HT_.out HW_.out (by kernel_rfl)) (fun _ _ _ h => h) (Or.inl ⟨by rfl, ?_⟩) hHeld ?_ ?_
      rotate_left
      · rintro w' ⟨s0, s1, s2, s3⟩
        go_simp
        with_reducible rfl
      rotate_left
      · simp only [Act.put, List.setIfInBounds_toArray, List.set_cons_zero, List.set_cons_succ, i64_w, i32_w]
        rfl
      refine pure_ (i := 8) (N := some 81) (v := ?_) (a' := ?_) #[true, true, true, true, true, true, true, true, true, false, false, false, false] rfl rfl (any_of HT_.out (by kernel_rfl)) (fun _ _ _ h => h) (Or.inl ⟨by rfl, ?_⟩) ?_ ?_
      rotate_left
      · intro w'
        go_simp
        with_reducible rfl
      rotate_left
      · simp only [Act.put, List.setIfInBounds_toArray, List.set_cons_zero, List.set_cons_succ, i64_w, i32_w]
        rfl
      refine one_ (i := 9) (N := some 82) #[true, true, true, true, true, true, true, true, true, true, false, false, false] rfl rfl (one_of HT_.out (by kernel_rfl)) (by decide) (fun K hK => ?_)
      refine value_ (w1 := ?_) (v := ?_) (by rfl) rfl ?_ ?_
      rotate_left 2
      · go_simp
        constructor
        · rfl
        · rfl
      refine hK.out _ _ ⟨(blk_cell (blk_alloc N1.out _) 2).trans rfl, depotref24_Read.at3 (HX.out _ (fun k hk hlt => (Below.heap_alloc w50 _ k (Nat.lt_of_lt_of_le hlt HZ0.out)).trans (KP0.out k hk hlt))) y hly⟩ (fun hHeld => ?_)
      clear hK K
      refine norm_ (a' := ?_) ?_ ?_
      rotate_left
      · show Act.put _ (some 82) _ = _
        simp only [Act.put, List.setIfInBounds_toArray, List.set_cons_zero, List.set_cons_succ, i64_w, i32_w]
        rfl
      refine one_ (i := 10) (N := some 83) #[true, true, true, true, true, true, true, true, true, true, true, false, false] rfl rfl (one_of HT_.out (by kernel_rfl)) (by decide) (fun K hK => ?_)
      refine Kd.R_append_step k48 (w0 := w0) w0.heap.size (by rfl) (.tmp 74) (.tmp 82) 24 48 (.agg #[(.bool false), (.string ⟨#[]⟩), (.int .i64 0), (.string ⟨#[]⟩)]) 48 rfl Tryd.underlying24 depotref24_Read.info48 rfl (by decide) (by omega) u (W ++ depotref24_Read.wishes false (r1.take y)) (⟨false, rd_T46 r1 (y : Int)⟩ : S48) [.bool false, .string (rd_T46 r1 (y : Int)).f0, .int .i64 (rd_T46 r1 (y : Int)).f1, .string (rd_T46 r1 (y : Int)).f2] (fun k => ok0 k ∧ k ≠ go ∧ k ≠ gr) (fun _ => False) rfl rfl (k48_mkM _ _ _ (⟨false, rd_T46 r1 (y : Int)⟩ : S48)) (fun _ hk => hk.elim) (fun k hk => HFR.out k hk) N0.out.2.2 N2.out (below_size N2.out) HW2.out ?_
      intro u9 w52 ho hb hg hat
      obtain ⟨L9, hL9⟩ : ∃ L9, (W ++ depotref24_Read.wishes false (r1.take y)) ++ [(⟨false, rd_T46 r1 (y : Int)⟩ : S48)] = L9 := ⟨_, rfl⟩
      rw [hL9] at ho
      have H9 := Aside0.mk hL9
      clear hL9
      have s0 := Aside0.mk (depotref24_Read.Tr_W N0.out ho hg hat)
      have s2 := Aside0.mk hb
      have s1 := Aside0.mk (show depotref24_Read.Stands w w52 from depotref24_Read.Stands_trans (depotref24_Read.Stands_trans HST.out (depotref24_Read.Stands_below HB0.out)) (fun g cs t h1 h2 h3 hq => blk_grown hq hg (Kd.R_ne N0.out.2.2 hq (Ne.symm h3))))
      have hbo := blk_grown N1.out hg (Kd.R_ne N0.out.2.2 N1.out (by decide))
      have hbr := blk_grown N3.out hg (Kd.R_ne N0.out.2.2 N3.out (by decide))
      have s3 := Aside0.mk (show ∀ k, w4.heap.size ≤ k → k < w5.heap.size → w52.heap[k]? = w5.heap[k]? from fun k hk hlt => (hg.block k (Nat.lt_of_lt_of_le hlt HZ0.out) (HNE.out k hk hlt)).trans (KP0.out k hk hlt))
      have s4 := Aside0.mk (show ∀ k, w4.heap.size ≤ k → k < w5.heap.size → some k ≠ u9.ownBlock from fun k hk hlt e => by
        rcases hat with h | ⟨q, h, hle⟩
        · exact HNE.out k hk hlt (e.trans h)
        · rw [h] at e
          injection e with e
          have h8 := HZ0.out
          omega)
      have s5 := Aside0.mk (show w5.heap.size ≤ w52.heap.size from Nat.le_trans HZ0.out hg.size)
      have BO9 := Aside0.mk hbo
      have BR9 := Aside0.mk hbr
      obtain ⟨Ao, co, eo⟩ := Kd.R_slice ho
      subst eo
      clear ho hb hg hat
      refine hK.out _ _ ⟨(blk_cell hbo 2).trans rfl, depotref24_Read.at3 (HX.out _ (fun k hk hlt => s3.out k hk hlt)) y hly⟩ (fun hHeld => ?_)
      clear hK K
      refine norm_ (a' := ?_) ?_ ?_
      rotate_left
      · show Act.put _ (some 83) _ = _
        simp only [Act.put, List.setIfInBounds_toArray, List.set_cons_zero, List.set_cons_succ, i64_w, i32_w]
        rfl
      refine pure_ (i := 11) (N := some 84) (v := ?_) (a' := ?_) #[true, true, true, true, true, true, true, true, true, true, true, true, false] rfl rfl (any_of HT_.out (by kernel_rfl)) (fun _ _ _ h => h) (Or.inl ⟨by rfl, ?_⟩) ?_ ?_
      rotate_left
      · intro w'
        go_simp
        with_reducible rfl
      rotate_left
      · simp only [Act.put, List.setIfInBounds_toArray, List.set_cons_zero, List.set_cons_succ, i64_w, i32_w]
        rfl
      refine last_ (i := 12) (N := none) #[true, true, true, true, true, true, true, true, true, true, true, true, true] rfl rfl (one_of HT_.out (by kernel_rfl)) (by decide) (fun K hK => ?_)
      have hs55 : w52.cell? ⟨go, 2, none⟩ = some u := (blk_cell hbo 2).trans rfl
      have hfs55 := blk_frozen hbo 2
      refine skip_ (w1 := ?_) (by rfl) rfl ?_ ?_
      rotate_left
      · go_simp
        rfl
      refine hK.out _ _ ?_
      clear hK K
      refine done_ (done_of HT_.out (by kernel_rfl)) ?_
      try go_wp2
      have HGOk := Aside0.mk (show ∀ k, w4.heap.size ≤ k → k ≠ go from fun k hk => by have h1 := HG4.out.1; omega)
      go_roundg gk2
      case measure => exact Nat.lt_succ_self gk2
      case rel =>
        have e : (W ++ depotref24_Read.wishes false (r1.take (y + 1))) = L9 := by
          rw [← H9.out, HO.out]
          unfold depotref24_Read.wishes; rw [List.map_append, List.append_assoc]; rfl
        refine ⟨y + 1, .slice Ao L9.length co, (by first | exact congrArg (Value.int .i64) HY.out.2.2 | rfl), HY.out.1, HY.out.2.1, ⟨blk_put BO9.out 2 _ rfl⟩, ⟨(Below.heap_setCell w52 ⟨go, 2, none⟩ _ gr HNG.out).trans BR9.out⟩, ⟨?_⟩, ⟨below_set s2.out (Nat.le_trans HB.out.size HGO.out)⟩, ⟨depotref24_Read.Stands_set s1.out HGO.out 2 _⟩, ⟨by show w5.heap.size ≤ (w52.setCell _ _).heap.size; rw [World.size_setCell]; exact s5.out⟩, ⟨fun k hk hlt => (Below.heap_setCell w52 ⟨go, 2, none⟩ _ k (HGOk.out k hk)).trans (s3.out k hk hlt)⟩, s4⟩
        rw [e]
        exact depotref24_Read.Tr_far s0.out (fun k hk => hk.2.1) 2 _
    · have q0 : decide ((y : Int) < (r1.length : Int)) = false := decide_eq_false (by omega)
      have q2 : ((y : Int) < (r1.length : Int)) = False := eq_false (by omega)
      obtain rfl : y = r1.length := by omega
      rw [List.take_length] at HTr
      obtain ⟨Ao, co, eo⟩ := Kd.R_slice HTr.out.2.2
      subst eo
      obtain ⟨L9, hL9⟩ : ∃ L9, (W ++ depotref24_Read.wishes false r1) = L9 := ⟨_, rfl⟩
      rw [hL9] at HTr BO
      have H9 := Aside0.mk hL9
      clear hL9
      have hng := HNG.out
      have hnh := Ne.symm HNG.out
      have oc0 : wr.cell? ⟨go, 0, none⟩ = some (.slice A0 L.length c0) := (blk_cell BO.out 0).trans rfl; have oz0 := blk_frozen BO.out 0; have oc1 : wr.cell? ⟨go, 1, none⟩ = some (.slice A1 F.length c1) := (blk_cell BO.out 1).trans rfl; have oz1 := blk_frozen BO.out 1; have oc2 : wr.cell? ⟨go, 2, none⟩ = some (.slice Ao L9.length co) := (blk_cell BO.out 2).trans rfl; have oz2 := blk_frozen BO.out 2
      have rc0 : wr.cell? ⟨gr, 0, none⟩ = some (.slice none 0 0) := (blk_cell BR.out 0).trans rfl; have rz0 := blk_frozen BR.out 0; have rc1 : wr.cell? ⟨gr, 1, none⟩ = some (.slice none 0 0) := (blk_cell BR.out 1).trans rfl; have rz1 := blk_frozen BR.out 1; have rc2 : wr.cell? ⟨gr, 2, none⟩ = some (.slice none 0 0) := (blk_cell BR.out 2).trans rfl; have rz2 := blk_frozen BR.out 2
      go_wp2
      have hz := HB.out.size
      have hx := HGO.out
      have hy := HGR.out
      refine bodyPost_ret (results_ct rfl _ _ gr 26 #[.slice A0 L.length c0, .slice A1 F.length c1, .slice Ao L9.length co] (0, 0) _ rfl (depotref24_Read.three BR.out) Tryd.underlying26 rfl (by kernel_rfl)) rfl ?_
      rw [H9.out]
      exact ⟨_, rfl, depotref24_Read.Tr_mono (depotref24_Read.Tr_far (depotref24_Read.Tr_far (depotref24_Read.Tr_far HTr.out (fun k hk => hk.2.2) 0 _) (fun k hk => hk.2.2) 1 _) (fun k hk => hk.2.2) 2 _) (fun k hk => hk.1), below_set (below_set (below_set HBl.out (Nat.le_trans hz hy)) (Nat.le_trans hz hy)) (Nat.le_trans hz hy),
        depotref24_Read.Stands_set (depotref24_Read.Stands_set (depotref24_Read.Stands_set HST.out hy 0 _) hy 1 _) hy 2 _⟩
set_option maxHeartbeats 2000000 in
set_option maxRecDepth 100000 in
theorem depotref24_Read.put_avoid (k : Nat) (w0 w : World) (ok0 : Nat → Prop) (v0 v1 v2 : Value) (L : List (List S46)) (F : List S46) (W : List S48) (hT : depotref24_Read.Tr w0.heap.size ok0 v0 v1 v2 L F W w) (hfr : ∀ k, w.heap.size ≤ k → ok0 k) (hB : Below w0.heap.size w0 w) (rest : ByteArray) (hr : rest.size ≠ 0) (r1 : List S46) (r2 r3 : Int) (h : depotref22_ReadList.f k rest = some (r1, r2, r3)) (hl : (W.length + r1.length) * 48 ≤ 140737488355328) :
    Calls Tryd.prog 46 #[.agg #[v0, v1, v2], .string ⟨#[97, 118, 111, 105, 100]⟩, .string rest] w fun e w' => ∃ u : Value, e = .returned (.tuple #[.agg #[v0, v1, u], .int .i64 r2]) ∧ depotref24_Read.Tr w0.heap.size ok0 v0 v1 u L F (W ++ depotref24_Read.wishes true r1) w' ∧ Below w0.heap.size w0 w' ∧ depotref24_Read.Stands w w' := by
  obtain ⟨A0, c0, e0⟩ := Kd.N_slice hT.1
  subst e0
  obtain ⟨A1, c1, e1⟩ := Kd.R_slice hT.2.1
  subst e1
  obtain ⟨A2, c2, e2⟩ := Kd.R_slice hT.2.2
  subst e2
  have HT := Aside0.mk hT
  have HF := Aside0.mk hfr
  have HB := Aside0.mk hB
  have HL := Aside0.mk hl
  have z1 : ((rest.size : Int) == 0) = false := beq_eq_false_iff_ne.2 (by omega)
  clear hT hfr hB hl hr
  go_enter Tryd.func46, Tryd.ntmps46
  have hu46 := Tryd.underlying46
  have hu48 := Tryd.underlying48
  go_wp2_with (first | ((with_reducible refine gate_dst (N := 3) rfl ?_); refine box_event ?hg (N := 3) ?hd (cs := #[.slice A0 L.length c0, .slice A1 F.length c1, .slice A2 W.length c2]) (t := 26) ?hr ?_; (case hd => rfl); (case hg => rfl); (case hr => first | (go_simp; done) | (go_simp; rfl)); intro go hgo w3 hbox hb; have BO3 := Aside0.mk hbox; have HB3 := Aside0.mk hb; have GO := Aside0.mk hgo; clear hbox hb hgo) | ((with_reducible refine gate_dst (N := 6) rfl ?_); refine box_event ?hg (N := 6) ?hd (cs := #[.slice none 0 0, .slice none 0 0, .slice none 0 0]) (t := 26) ?hr ?_; (case hd => rfl); (case hg => rfl); (case hr => first | (go_simp; done) | (go_simp; rfl)); intro gr hgr w4 hbox hb; have BO4 := Aside0.mk (blk_below BO3.out hb); have BR4 := Aside0.mk hbox; have HB4 := Aside0.mk (below_step HB3.out hb); have GR := Aside0.mk (show go < gr by rw [hgr]; exact blk_lt BO3.out); clear hbox hb hgr HB3 BO3; have HT4 := Aside0.mk (depotref24_Read.Tr_mono (ok1 := fun k => ok0 k ∧ k ≠ go ∧ k ≠ gr) (depotref24_Read.Tr_below (depotref24_Read.Tr_bound HT.out) HB4.out) (fun k hk => ⟨hk.1, by have h1 := GO.out; omega, by have h1 := GO.out; have h2 := GR.out; omega⟩)); have HF4 := Aside0.mk (show ∀ k, w4.heap.size ≤ k → ok0 k ∧ k ≠ go ∧ k ≠ gr from fun k hk => ⟨HF.out k (Nat.le_trans HB4.out.size hk), by have h1 := blk_lt BO4.out; omega, by have h1 := blk_lt BR4.out; omega⟩); have HC4 := Aside0.mk (below_then HB.out HB.out.size HB4.out)) | (go_at_call 71; refine (depotref22_ReadList.calls k rest r1 r2 r3 w4 h).mono ?_; rintro e w5 ⟨v5, rfl, ho5, hb5⟩; obtain ⟨Av, cv, ev⟩ := Kd.R_slice ho5; subst ev; have HO5 := Aside0.mk ho5; have BO5 := Aside0.mk (blk_below BO4.out hb5); have BR5 := Aside0.mk (blk_below BR4.out hb5); have HT5 := Aside0.mk (depotref24_Read.Tr_below HT4.out hb5); have HS5 := Aside0.mk (Nat.le_trans HB4.out.size hb5.size); have HB5 := Aside0.mk (below_step HB4.out hb5); have HC5 := Aside0.mk (below_then HC4.out HC4.out.size hb5); have HS45 := Aside0.mk (show w4.heap.size ≤ w5.heap.size from hb5.size); have HF5 := Aside0.mk (fun k (hk : w5.heap.size ≤ k) => HF4.out k (Nat.le_trans hb5.size hk)); clear ho5 hb5; have HX := Aside0.mk (Kd.R_F (Kd.R_mono (ok' := fun k => w4.heap.size ≤ k) (Kd.R_bound HO5.out) (fun k hk => hk.2.1)))))
  have HGO := Aside0.mk (show w.heap.size ≤ go by have h1 := GO.out; omega)
  have HGR := Aside0.mk (show w.heap.size ≤ gr by have h1 := GR.out; have h2 := GO.out; omega)
  have HG4 := Aside0.mk (show go < w4.heap.size ∧ gr < w4.heap.size from ⟨blk_lt BO4.out, blk_lt BR4.out⟩)
  have HNG := Aside0.mk (show gr ≠ go from Nat.ne_of_gt GR.out)
  go_loopg [14] r1.length (fun gg s14 wi => ∃ (y : Nat) (u : Value), s14 = .int .i64 (y : Int) ∧ y ≤ r1.length ∧ r1.length - y ≤ gg ∧ Aside0 (wi.heap[go]? = some (.cells #[.slice A0 L.length c0, .slice A1 F.length c1, u] 26 (0, 0))) ∧ Aside0 (wi.heap[gr]? = some (.cells #[.slice none 0 0, .slice none 0 0, .slice none 0 0] 26 (0, 0))) ∧ Aside0 (depotref24_Read.Tr w0.heap.size (fun k => ok0 k ∧ k ≠ go ∧ k ≠ gr) (.slice A0 L.length c0) (.slice A1 F.length c1) u L F (W ++ depotref24_Read.wishes true (r1.take y)) wi) ∧ Aside0 (Below w0.heap.size w0 wi) ∧ Aside0 (depotref24_Read.Stands w wi) ∧ Aside0 (w5.heap.size ≤ wi.heap.size) ∧ Aside0 (∀ k, w4.heap.size ≤ k → k < w5.heap.size → wi.heap[k]? = w5.heap[k]?) ∧ Aside0 (∀ k, w4.heap.size ≤ k → k < w5.heap.size → some k ≠ u.ownBlock))
  case atStart =>
    refine ⟨0, .slice A2 W.length c2, rfl, by omega, by omega, BO5, BR5, ⟨?_⟩, HC5, ⟨depotref24_Read.Stands_below HB5.out⟩, ⟨Nat.le_refl _⟩, ⟨fun k _ _ => rfl⟩, ⟨fun k hk _ e => ?_⟩⟩
    · rw [List.take_zero]
      show depotref24_Read.Tr w0.heap.size _ _ _ _ L F (W ++ []) _
      rw [List.append_nil]
      exact HT5.out
    · exact absurd (Kd.R_lt HT4.out.2.2 k e.symm) (Nat.not_lt.2 hk)
  case round =>
    clear BO5 BR5 HT5 HC5 HB5
    obtain ⟨y, u, rfl, hy, hgy, BO, BR, HTr, HBl, HST, HSZ, HKP, HNE⟩ := hrel
    by_cases hly : y < r1.length
    · obtain ⟨gk2, rfl⟩ : ∃ g, gk = g + 1 := ⟨gk - 1, by omega⟩
      have HY := Aside0.mk (show y + 1 ≤ r1.length ∧ r1.length - (y + 1) ≤ gk2 ∧ wrap64 ((y : Int) + 1) = ((y + 1 : Nat) : Int) by have hl0 := HL.out; refine ⟨by omega, by omega, ?_⟩; unfold wrap64; omega)
      have HW2 := Aside0.mk (show ((W ++ depotref24_Read.wishes true (r1.take y)).length + 1) * 48 ≤ 140737488355328 by have h1 := HL.out; rw [List.length_append]; unfold depotref24_Read.wishes; rw [List.length_map, List.length_take]; omega)
      have h0 : (0 : Int) ≤ (y : Int) := by omega
      have h1 : (y : Int) < (r1.length : Int) := by omega
      obtain ⟨ad, ead, _, _, _⟩ := at_T46 (HX.out wr (fun k hk hlt => HKP.out k hk hlt)) (y : Int) h0 h1
      cases ead
      obtain ⟨hx0, hx1, hx2⟩ := depotref24_Read.at3 (HX.out wr (fun k hk hlt => HKP.out k hk hlt)) y hly
      have q0 : decide ((y : Int) < (r1.length : Int)) = true := decide_eq_true h1
      have q1 := eq_true h0
      have q2 := eq_true h1
      have HO := Aside0.mk (show r1.take (y + 1) = r1.take y ++ [rd_T46 r1 (y : Int)] by rw [List.take_succ_eq_append_getElem hly]; congr 2; unfold rd_T46; rw [Int.toNat_natCast, List.getD_eq_getElem?_getD, List.getElem?_eq_getElem hly, Option.getD_some])
      have hc2 : wr.cell? ⟨go, 2, none⟩ = some u := (blk_cell BO.out 2).trans rfl
      have hz2 := blk_frozen BO.out 2
      have hn2 : wr.heap.size ≠ go := by have h2 := blk_lt BO.out; omega
      have hn3 : wr.heap.size ≠ gr := by have h2 := blk_lt BR.out; omega
      have hn5 := hn2.symm
      have hn6 := hn3.symm
      clear h0 h1
      go_wp2
      have hb0 : Below wr.heap.size wr wr.drew := below_drew1 (Below.refl _ _)
      refine start_ (n := 13) (S := fun w' => w'.cell? ⟨go, 2, none⟩ = some u ∧ w'.cell? (ad.add (y * 3)) = some (.string (rd_T46 r1 (y : Int)).f0) ∧ w'.cell? ⟨(ad.add (y * 3)).block, (ad.add (y * 3)).off + 1, none⟩ = some (.int .i64 (rd_T46 r1 (y : Int)).f1) ∧ w'.cell? ⟨(ad.add (y * 3)).block, (ad.add (y * 3)).off + 2, none⟩ = some (.string (rd_T46 r1 (y : Int)).f2)) (ds := [12]) #[false, false, false, false, false, false, false, false, false, false, false, false, false] (by kernel_rfl) rfl rfl ⟨hc2, hx0, hx1, hx2⟩ (fun hHeld => ?_); refine with_tabW depotref24_Read.tab13 depotref24_Read.bits13 (fun HT_ HW_ => ?_)
      generalize wr.drew = w50 at hb0 hHeld ⊢
      have HB0 := Aside0.mk hb0
      have N0 := Aside0.mk (depotref24_Read.Tr_below HTr.out hb0)
      have N1 := Aside0.mk (blk_below BO.out hb0)
      have N3 := Aside0.mk (blk_below BR.out hb0)
      have N2 := Aside0.mk (below_then HBl.out HBl.out.size hb0)
      have KP0 := Aside0.mk (show ∀ k, w4.heap.size ≤ k → k < w5.heap.size → w50.heap[k]? = w5.heap[k]? from fun k hk hlt => (hb0.block k (Nat.lt_of_lt_of_le hlt HSZ.out)).trans (HKP.out k hk hlt))
      have HZ0 := Aside0.mk (show w5.heap.size ≤ w50.heap.size from Nat.le_trans HSZ.out hb0.size)
      have HFR := Aside0.mk (show ∀ k, w50.heap.size ≤ k → ok0 k ∧ k ≠ go ∧ k ≠ gr from fun k hk => HF5.out k (Nat.le_trans HZ0.out hk))
      clear hb0
      refine pure_ (i := 0) (N := some 73) (v := ?_) (a' := ?_) #[true, false, false, false, false, false, false, false, false, false, false, false, false] rfl rfl (any_of HT_.out (by kernel_rfl)) (fun _ _ _ h => h) (Or.inl ⟨by rfl, ?_⟩) ?_ ?_
      rotate_left
      · intro w'
        go_simp
        with_reducible rfl
      rotate_left
      · simp only [Act.put, List.setIfInBounds_toArray, List.set_cons_zero, List.set_cons_succ, i64_w, i32_w]
        rfl
      refine pure_ (i := 2) (N := some 75) (v := ?_) (a' := ?_) #[true, false, true, false, false, false, false, false, false, false, false, false, false] rfl rfl (any_of HT_.out (by kernel_rfl)) (fun _ _ _ h => h) (Or.inl ⟨by rfl, ?_⟩) ?_ ?_
      rotate_left
      · intro w'
        go_simp
        with_reducible rfl
      rotate_left
      · simp only [Act.put, List.setIfInBounds_toArray, List.set_cons_zero, List.set_cons_succ, i64_w, i32_w]
        rfl
      refine pure_ (i := 3) (N := some 76) (v := ?_) (a' := ?_) #[true, false, true, true, false, false, false, false, false, false, false, false, false] rfl rfl (any_of HT_.out (by kernel_rfl)) (fun _ _ _ h => h) (Or.inl ⟨by rfl, ?_⟩) ?_ ?_
      rotate_left
      · intro w'
        go_simp
        with_reducible rfl
      rotate_left
      · simp only [Act.put, List.setIfInBounds_toArray, List.set_cons_zero, List.set_cons_succ, i64_w, i32_w]
        rfl
      refine pure_ (i := 4) (N := some 77) (v := ?_) (a' := ?_) #[true, false, true, true, true, false, false, false, false, false, false, false, false] rfl rfl (any_of HT_.out (by kernel_rfl)) (fun _ _ _ h => h) (Or.inl ⟨by rfl, ?_⟩) ?_ ?_
      rotate_left
      · intro w'
        go_simp
        with_reducible rfl
      rotate_left
      · simp only [Act.put, List.setIfInBounds_toArray, List.set_cons_zero, List.set_cons_succ, i64_w, i32_w]
        rfl
      refine pure_ (i := 5) (N := some 78) (v := ?_) (a' := ?_) #[true, false, true, true, true, true, false, false, false, false, false, false, false] rfl rfl (any_of HT_.out (by kernel_rfl)) (fun _ _ _ h => h) (Or.inl ⟨by rfl, ?_⟩) ?_ ?_
      rotate_left
      · intro w'
        go_simp
        with_reducible rfl
      rotate_left
      · simp only [Act.put, List.setIfInBounds_toArray, List.set_cons_zero, List.set_cons_succ, i64_w, i32_w]
        rfl
      refine pure_ (i := 6) (N := some 79) (v := ?_) (a' := ?_) #[true, false, true, true, true, true, true, false, false, false, false, false, false] rfl rfl (any_of HT_.out (by kernel_rfl)) (fun _ _ _ h => h) (Or.inl ⟨by rfl, ?_⟩) ?_ ?_
      rotate_left
      · intro w'
        go_simp
        with_reducible rfl
      rotate_left
      · simp only [Act.put, List.setIfInBounds_toArray, List.set_cons_zero, List.set_cons_succ, i64_w, i32_w]
        rfl
      refine take_ (i := 1) (N := some 74) (v := ?_) (a' := ?_) #[true, true, true, true, true, true, true, false, false, false, false, false, false] rfl rfl (take_ofW HT_.out HW_.out (by kernel_rfl)) (fun _ _ _ h => h) (Or.inl ⟨by rfl, ?_⟩) hHeld ?_ ?_
      rotate_left
      · rintro w' ⟨s0, s1, s2, s3⟩
        go_simp
        with_reducible rfl
      rotate_left
      · simp only [Act.put, List.setIfInBounds_toArray, List.set_cons_zero, List.set_cons_succ, i64_w, i32_w]
        rfl
      refine take_ (i := 7) (N := some 80) (v := ?_) (a' := ?_) #[true, true, true, true, true, true, true, true, false, false, false, false, false] rfl rfl (take_ofW HT_.out HW_.out (by kernel_rfl)) (fun _ _ _ h => h) (Or.inl ⟨by rfl, ?_⟩) hHeld ?_ ?_
      rotate_left
      · rintro w' ⟨s0, s1, s2, s3⟩
        go_simp
        with_reducible rfl
      rotate_left
      · simp only [Act.put, List.setIfInBounds_toArray, List.set_cons_zero, List.set_cons_succ, i64_w, i32_w]
        rfl
      refine pure_ (i := 8) (N := some 81) (v := ?_) (a' := ?_) #[true, true, true, true, true, true, true, true, true, false, false, false, false] rfl rfl (any_of HT_.out (by kernel_rfl)) (fun _ _ _ h => h) (Or.inl ⟨by rfl, ?_⟩) ?_ ?_
      rotate_left
      · intro w'
        go_simp
        with_reducible rfl
      rotate_left
      · simp only [Act.put, List.setIfInBounds_toArray, List.set_cons_zero, List.set_cons_succ, i64_w, i32_w]
        rfl
      refine one_ (i := 9) (N := some 82) #[true, true, true, true, true, true, true, true, true, true, false, false, false] rfl rfl (one_of HT_.out (by kernel_rfl)) (by decide) (fun K hK => ?_)
      refine value_ (w1 := ?_) (v := ?_) (by rfl) rfl ?_ ?_
      rotate_left 2
      · go_simp
        constructor
        · rfl
        · rfl
      refine hK.out _ _ ⟨(blk_cell (blk_alloc N1.out _) 2).trans rfl, depotref24_Read.at3 (HX.out _ (fun k hk hlt => (Below.heap_alloc w50 _ k (Nat.lt_of_lt_of_le hlt HZ0.out)).trans (KP0.out k hk hlt))) y hly⟩ (fun hHeld => ?_)
      clear hK K
      refine norm_ (a' := ?_) ?_ ?_
      rotate_left
      · show Act.put _ (some 82) _ = _
        simp only [Act.put, List.setIfInBounds_toArray, List.set_cons_zero, List.set_cons_succ, i64_w, i32_w]
        rfl
      refine one_ (i := 10) (N := some 83) #[true, true, true, true, true, true, true, true, true, true, true, false, false] rfl rfl (one_of HT_.out (by kernel_rfl)) (by decide) (fun K hK => ?_)
      refine Kd.R_append_step k48 (w0 := w0) w0.heap.size (by rfl) (.tmp 74) (.tmp 82) 24 48 (.agg #[(.bool false), (.string ⟨#[]⟩), (.int .i64 0), (.string ⟨#[]⟩)]) 48 rfl Tryd.underlying24 depotref24_Read.info48 rfl (by decide) (by omega) u (W ++ depotref24_Read.wishes true (r1.take y)) (⟨true, rd_T46 r1 (y : Int)⟩ : S48) [.bool true, .string (rd_T46 r1 (y : Int)).f0, .int .i64 (rd_T46 r1 (y : Int)).f1, .string (rd_T46 r1 (y : Int)).f2] (fun k => ok0 k ∧ k ≠ go ∧ k ≠ gr) (fun _ => False) rfl rfl (k48_mkM _ _ _ (⟨true, rd_T46 r1 (y : Int)⟩ : S48)) (fun _ hk => hk.elim) (fun k hk => HFR.out k hk) N0.out.2.2 N2.out (below_size N2.out) HW2.out ?_
      intro u9 w52 ho hb hg hat
      obtain ⟨L9, hL9⟩ : ∃ L9, (W ++ depotref24_Read.wishes true (r1.take y)) ++ [(⟨true, rd_T46 r1 (y : Int)⟩ : S48)] = L9 := ⟨_, rfl⟩
      rw [hL9] at ho
      have H9 := Aside0.mk hL9
      clear hL9
      have s0 := Aside0.mk (depotref24_Read.Tr_W N0.out ho hg hat)
      have s2 := Aside0.mk hb
      have s1 := Aside0.mk (show depotref24_Read.Stands w w52 from depotref24_Read.Stands_trans (depotref24_Read.Stands_trans HST.out (depotref24_Read.Stands_below HB0.out)) (fun g cs t h1 h2 h3 hq => blk_grown hq hg (Kd.R_ne N0.out.2.2 hq (Ne.symm h3))))
      have hbo := blk_grown N1.out hg (Kd.R_ne N0.out.2.2 N1.out (by decide))
      have hbr := blk_grown N3.out hg (Kd.R_ne N0.out.2.2 N3.out (by decide))
      have s3 := Aside0.mk (show ∀ k, w4.heap.size ≤ k → k < w5.heap.size → w52.heap[k]? = w5.heap[k]? from fun k hk hlt => (hg.block k (Nat.lt_of_lt_of_le hlt HZ0.out) (HNE.out k hk hlt)).trans (KP0.out k hk hlt))
      have s4 := Aside0.mk (show ∀ k, w4.heap.size ≤ k → k < w5.heap.size → some k ≠ u9.ownBlock from fun k hk hlt e => by
        rcases hat with h | ⟨q, h, hle⟩
        · exact HNE.out k hk hlt (e.trans h)
        · rw [h] at e
          injection e with e
          have h8 := HZ0.out
          omega)
      have s5 := Aside0.mk (show w5.heap.size ≤ w52.heap.size from Nat.le_trans HZ0.out hg.size)
      have BO9 := Aside0.mk hbo
      have BR9 := Aside0.mk hbr
      obtain ⟨Ao, co, eo⟩ := Kd.R_slice ho
      subst eo
      clear ho hb hg hat
      refine hK.out _ _ ⟨(blk_cell hbo 2).trans rfl, depotref24_Read.at3 (HX.out _ (fun k hk hlt => s3.out k hk hlt)) y hly⟩ (fun hHeld => ?_)
      clear hK K
      refine norm_ (a' := ?_) ?_ ?_
      rotate_left
      · show Act.put _ (some 83) _ = _
        simp only [Act.put, List.setIfInBounds_toArray, List.set_cons_zero, List.set_cons_succ, i64_w, i32_w]
        rfl
      refine pure_ (i := 11) (N := some 84) (v := ?_) (a' := ?_) #[true, true, true, true, true, true, true, true, true, true, true, true, false] rfl rfl (any_of HT_.out (by kernel_rfl)) (fun _ _ _ h => h) (Or.inl ⟨by rfl, ?_⟩) ?_ ?_
      rotate_left
      · intro w'
        go_simp
        with_reducible rfl
      rotate_left
      · simp only [Act.put, List.setIfInBounds_toArray, List.set_cons_zero, List.set_cons_succ, i64_w, i32_w]
        rfl
      refine last_ (i := 12) (N := none) #[true, true, true, true, true, true, true, true, true, true, true, true, true] rfl rfl (one_of HT_.out (by kernel_rfl)) (by decide) (fun K hK => ?_)
      have hs55 : w52.cell? ⟨go, 2, none⟩ = some u := (blk_cell hbo 2).trans rfl
      have hfs55 := blk_frozen hbo 2
      refine skip_ (w1 := ?_) (by rfl) rfl ?_ ?_
      rotate_left
      · go_simp
        rfl
      refine hK.out _ _ ?_
      clear hK K
      refine done_ (done_of HT_.out (by kernel_rfl)) ?_
      try go_wp2
      have HGOk := Aside0.mk (show ∀ k, w4.heap.size ≤ k → k ≠ go from fun k hk => by have h1 := HG4.out.1; omega)
      go_roundg gk2
      case measure => exact Nat.lt_succ_self gk2
      case rel =>
        have e : (W ++ depotref24_Read.wishes true (r1.take (y + 1))) = L9 := by
          rw [← H9.out, HO.out]
          unfold depotref24_Read.wishes; rw [List.map_append, List.append_assoc]; rfl
        refine ⟨y + 1, .slice Ao L9.length co, (by first | exact congrArg (Value.int .i64) HY.out.2.2 | rfl), HY.out.1, HY.out.2.1, ⟨blk_put BO9.out 2 _ rfl⟩, ⟨(Below.heap_setCell w52 ⟨go, 2, none⟩ _ gr HNG.out).trans BR9.out⟩, ⟨?_⟩, ⟨below_set s2.out (Nat.le_trans HB.out.size HGO.out)⟩, ⟨depotref24_Read.Stands_set s1.out HGO.out 2 _⟩, ⟨by show w5.heap.size ≤ (w52.setCell _ _).heap.size; rw [World.size_setCell]; exact s5.out⟩, ⟨fun k hk hlt => (Below.heap_setCell w52 ⟨go, 2, none⟩ _ k (HGOk.out k hk)).trans (s3.out k hk hlt)⟩, s4⟩
        rw [e]
        exact depotref24_Read.Tr_far s0.out (fun k hk => hk.2.1) 2 _
    · have q0 : decide ((y : Int) < (r1.length : Int)) = false := decide_eq_false (by omega)
      have q2 : ((y : Int) < (r1.length : Int)) = False := eq_false (by omega)
      obtain rfl : y = r1.length := by omega
      rw [List.take_length] at HTr
      obtain ⟨Ao, co, eo⟩ := Kd.R_slice HTr.out.2.2
      subst eo
      obtain ⟨L9, hL9⟩ : ∃ L9, (W ++ depotref24_Read.wishes true r1) = L9 := ⟨_, rfl⟩
      rw [hL9] at HTr BO
      have H9 := Aside0.mk hL9
      clear hL9
      have hng := HNG.out
      have hnh := Ne.symm HNG.out
      have oc0 : wr.cell? ⟨go, 0, none⟩ = some (.slice A0 L.length c0) := (blk_cell BO.out 0).trans rfl; have oz0 := blk_frozen BO.out 0; have oc1 : wr.cell? ⟨go, 1, none⟩ = some (.slice A1 F.length c1) := (blk_cell BO.out 1).trans rfl; have oz1 := blk_frozen BO.out 1; have oc2 : wr.cell? ⟨go, 2, none⟩ = some (.slice Ao L9.length co) := (blk_cell BO.out 2).trans rfl; have oz2 := blk_frozen BO.out 2
      have rc0 : wr.cell? ⟨gr, 0, none⟩ = some (.slice none 0 0) := (blk_cell BR.out 0).trans rfl; have rz0 := blk_frozen BR.out 0; have rc1 : wr.cell? ⟨gr, 1, none⟩ = some (.slice none 0 0) := (blk_cell BR.out 1).trans rfl; have rz1 := blk_frozen BR.out 1; have rc2 : wr.cell? ⟨gr, 2, none⟩ = some (.slice none 0 0) := (blk_cell BR.out 2).trans rfl; have rz2 := blk_frozen BR.out 2
      go_wp2
      have hz := HB.out.size
      have hx := HGO.out
      have hy := HGR.out
      refine bodyPost_ret (results_ct rfl _ _ gr 26 #[.slice A0 L.length c0, .slice A1 F.length c1, .slice Ao L9.length co] (0, 0) _ rfl (depotref24_Read.three BR.out) Tryd.underlying26 rfl (by kernel_rfl)) rfl ?_
      rw [H9.out]
      exact ⟨_, rfl, depotref24_Read.Tr_mono (depotref24_Read.Tr_far (depotref24_Read.Tr_far (depotref24_Read.Tr_far HTr.out (fun k hk => hk.2.2) 0 _) (fun k hk => hk.2.2) 1 _) (fun k hk => hk.2.2) 2 _) (fun k hk => hk.1), below_set (below_set (below_set HBl.out (Nat.le_trans hz hy)) (Nat.le_trans hz hy)) (Nat.le_trans hz hy),
        depotref24_Read.Stands_set (depotref24_Read.Stands_set (depotref24_Read.Stands_set HST.out hy 0 _) hy 1 _) hy 2 _⟩
abbrev depotref24_Read.Q := List (List S46) × List S46 × List S48
def depotref24_Read.step (k : Nat) (t rest : ByteArray) (q : depotref24_Read.Q) : Option (depotref24_Read.Q × Int) :=
  if ¬ (t = ⟨#[105, 110, 115, 116, 97, 108, 108]⟩ ∨ t = ⟨#[102, 111, 114, 98, 105, 100]⟩ ∨ t = ⟨#[112, 114, 101, 102, 101, 114]⟩ ∨ t = ⟨#[97, 118, 111, 105, 100]⟩) then some (q, 240) else
  if rest.size = 0 then some (q, 240) else
  if t = ⟨#[105, 110, 115, 116, 97, 108, 108]⟩ then (depotref22_Read.f k rest).bind fun r => if (q.1.length + r.1.length) * 24 ≤ 140737488355328 then some ((q.1 ++ r.1, q.2.1, q.2.2), r.2.1) else none
  else if t = ⟨#[102, 111, 114, 98, 105, 100]⟩ then (depotref22_ReadList.f k rest).bind fun r => if (q.2.1.length + r.1.length) * 40 ≤ 140737488355328 then some ((q.1, q.2.1 ++ r.1, q.2.2), r.2.1) else none
  else if t = ⟨#[112, 114, 101, 102, 101, 114]⟩ then (depotref22_ReadList.f k rest).bind fun r => if (q.2.2.length + r.1.length) * 48 ≤ 140737488355328 then some ((q.1, q.2.1, q.2.2 ++ depotref24_Read.wishes false r.1), r.2.1) else none
  else (depotref22_ReadList.f k rest).bind fun r => if (q.2.2.length + r.1.length) * 48 ≤ 140737488355328 then some ((q.1, q.2.1, q.2.2 ++ depotref24_Read.wishes true r.1), r.2.1) else none
def depotref24_Read.idle (t : ByteArray) : Bool := match t.data.toList with | [] => true | c :: _ => c == 35
def depotref24_Read.lines (k : Nat) : List ByteArray → Nat → depotref24_Read.Q → Option (List (List S46) × List S46 × List S48 × Int × Int)
  | [], _, q => some (q.1, q.2.1, q.2.2, 0, 0)
  | l :: ls, i, q => (depotref24_Parted.f k l).bind fun t => if depotref24_Read.idle t.1 = true then depotref24_Read.lines k ls (i + 1) q else (depotref24_Read.step k t.1 t.2 q).bind fun r => if r.2 = 0 then depotref24_Read.lines k ls (i + 1) r.1 else some ([], [], [], r.2, ((i + 1 : Nat) : Int))
def depotref24_Read.f (k : Nat) (a0 : ByteArray) : Option (List (List S46) × List S46 × List S48 × Int × Int) :=
  (depotref03_Lines.f k a0).bind fun ls => if ls.length < 1099511627776 then depotref24_Read.lines k ls 0 ([], [], []) else none
theorem depotref24_Read.step_mono (k : Nat) (t rest : ByteArray) (q : depotref24_Read.Q) : LeO (depotref24_Read.step k t rest q) (depotref24_Read.step (k + 1) t rest q) := by
  unfold depotref24_Read.step
  refine LeO.ite (LeO.refl _) ?_
  refine LeO.ite (LeO.refl _) ?_
  refine LeO.ite (LeO.bind (depotref22_Read.mono _ _) (fun _ => LeO.refl _)) ?_
  refine LeO.ite (LeO.bind (depotref22_ReadList.mono _ _) (fun _ => LeO.refl _)) ?_
  refine LeO.ite (LeO.bind (depotref22_ReadList.mono _ _) (fun _ => LeO.refl _)) ?_
  exact LeO.bind (depotref22_ReadList.mono _ _) (fun _ => LeO.refl _)
theorem depotref24_Read.lines_mono (k : Nat) : ∀ ls i q, LeO (depotref24_Read.lines k ls i q) (depotref24_Read.lines (k + 1) ls i q)
  | [], _, _ => LeO.refl _
  | l :: ls, i, q => LeO.bind (depotref24_Parted.mono _ _) (fun _ => LeO.ite (depotref24_Read.lines_mono k ls _ _) (LeO.bind (depotref24_Read.step_mono k _ _ _) (fun _ => LeO.ite (depotref24_Read.lines_mono k ls _ _) (LeO.refl _))))
theorem depotref24_Read.mono : ∀ a0 k, LeO (depotref24_Read.f k a0) (depotref24_Read.f (k + 1) a0) := fun a0 k => LeO.bind (depotref03_Lines.mono _ _) (fun _ => LeO.ite (depotref24_Read.lines_mono k _ _ _) (LeO.none _))
theorem depotref24_Read.put_all (k : Nat) (w0 w : World) (ok0 : Nat → Prop) (v0 v1 v2 : Value) (L : List (List S46)) (F : List S46) (W : List S48) (hT : depotref24_Read.Tr w0.heap.size ok0 v0 v1 v2 L F W w) (hfr : ∀ k, w.heap.size ≤ k → ok0 k) (hB : Below w0.heap.size w0 w) (t rest : ByteArray) (q : depotref24_Read.Q) (er : Int) (h : depotref24_Read.step k t rest (L, F, W) = some (q, er)) :
    Calls Tryd.prog 46 #[.agg #[v0, v1, v2], .string t, .string rest] w fun e w' => ∃ u0 u1 u2 : Value, e = .returned (.tuple #[.agg #[u0, u1, u2], .int .i64 er]) ∧ depotref24_Read.Tr w0.heap.size ok0 u0 u1 u2 q.1 q.2.1 q.2.2 w' ∧ Below w0.heap.size w0 w' ∧ depotref24_Read.Stands w w' := by
  unfold depotref24_Read.step at h
  split at h
  case isTrue hn =>
    simp only [Option.some.injEq, Prod.mk.injEq] at h
    obtain ⟨rfl, rfl⟩ := h
    have hn := not_or.1 hn
    have hn2 := not_or.1 hn.2
    have hn3 := not_or.1 hn2.2
    refine (depotref24_Read.put_word w0 w ok0 v0 v1 v2 L F W hT t rest hn.1 hn2.1 hn3.1 hn3.2).mono ?_
    rintro e w' ⟨rfl, hb⟩
    exact ⟨_, _, _, rfl, depotref24_Read.Tr_below hT hb, below_then hB hB.size hb, depotref24_Read.Stands_below hb⟩
  case isFalse hw =>
  have hw := Classical.not_not.1 hw
  split at h
  case isTrue hz =>
    simp only [Option.some.injEq, Prod.mk.injEq] at h
    obtain ⟨rfl, rfl⟩ := h
    refine (depotref24_Read.put_bare w0 w ok0 v0 v1 v2 L F W hT t rest hw hz).mono ?_
    rintro e w' ⟨rfl, hb⟩
    exact ⟨_, _, _, rfl, depotref24_Read.Tr_below hT hb, below_then hB hB.size hb, depotref24_Read.Stands_below hb⟩
  case isFalse hz =>
  split at h
  case isTrue e1 =>
    subst e1
    obtain ⟨⟨r1, r2, r3⟩, hr, h⟩ := Option.bind_eq_some_iff.mp h
    simp only at h
    split at h
    case isFalse => cases h
    case isTrue hl =>
    simp only [Option.some.injEq, Prod.mk.injEq] at h
    obtain ⟨rfl, rfl⟩ := h
    refine (depotref24_Read.put_install k w0 w ok0 v0 v1 v2 L F W hT hfr hB rest hz r1 r2 r3 hr hl).mono ?_
    rintro e w' ⟨u, rfl, a, b, c⟩
    exact ⟨_, _, _, rfl, a, b, c⟩
  case isFalse e1 =>
  split at h
  case isTrue e2 =>
    subst e2
    obtain ⟨⟨r1, r2, r3⟩, hr, h⟩ := Option.bind_eq_some_iff.mp h
    simp only at h
    split at h
    case isFalse => cases h
    case isTrue hl =>
    simp only [Option.some.injEq, Prod.mk.injEq] at h
    obtain ⟨rfl, rfl⟩ := h
    refine (depotref24_Read.put_forbid k w0 w ok0 v0 v1 v2 L F W hT hfr hB rest hz r1 r2 r3 hr hl).mono ?_
    rintro e w' ⟨u, rfl, a, b, c⟩
    exact ⟨_, _, _, rfl, a, b, c⟩
  case isFalse e2 =>
  split at h
  case isTrue e3 =>
    subst e3
    obtain ⟨⟨r1, r2, r3⟩, hr, h⟩ := Option.bind_eq_some_iff.mp h
    simp only at h
    split at h
    case isFalse => cases h
    case isTrue hl =>
    simp only [Option.some.injEq, Prod.mk.injEq] at h
    obtain ⟨rfl, rfl⟩ := h
    refine (depotref24_Read.put_prefer k w0 w ok0 v0 v1 v2 L F W hT hfr hB rest hz r1 r2 r3 hr hl).mono ?_
    rintro e w' ⟨u, rfl, a, b, c⟩
    exact ⟨_, _, _, rfl, a, b, c⟩
  case isFalse e3 =>
  obtain rfl : t = ⟨#[97, 118, 111, 105, 100]⟩ := by
    rcases hw with e | e | e | e
    · exact absurd e e1
    · exact absurd e e2
    · exact absurd e e3
    · exact e
  obtain ⟨⟨r1, r2, r3⟩, hr, h⟩ := Option.bind_eq_some_iff.mp h
  simp only at h
  split at h
  case isFalse => cases h
  case isTrue hl =>
  simp only [Option.some.injEq, Prod.mk.injEq] at h
  obtain ⟨rfl, rfl⟩ := h
  refine (depotref24_Read.put_avoid k w0 w ok0 v0 v1 v2 L F W hT hfr hB rest hz r1 r2 r3 hr hl).mono ?_
  rintro e w' ⟨u, rfl, a, b, c⟩
  exact ⟨_, _, _, rfl, a, b, c⟩
set_option maxHeartbeats 2000000 in
set_option maxRecDepth 100000 in
theorem depotref24_Read.calls (k : Nat) (a0 : ByteArray) (r1 : List (List S46)) (r2 : List S46) (r3 : List S48) (r4 r5 : Int) (w : World) (h : depotref24_Read.f k a0 = some (r1, r2, r3, r4, r5)) :
    Calls Tryd.prog 20 #[.string a0] w fun e w' => ∃ v0_ v1_ v2_ : Value, e = .returned (.tuple #[.agg #[v0_, v1_, v2_], .int .i64 r4, .int .i64 r5]) ∧ Kd.N (Kd.slice 46 k46) 23 w' w.heap.size (fun k_ => (w.heap.size ≤ k_) ∧ some k_ ≠ v1_.ownBlock ∧ some k_ ≠ v2_.ownBlock) v0_ r1 ∧ Kd.R k46 46 w' w.heap.size (fun k_ => (w.heap.size ≤ k_)) v1_ r2 ∧ Kd.R k48 48 w' w.heap.size (fun k_ => (w.heap.size ≤ k_)) v2_ r3 ∧ Below w.heap.size w w' := by
  have hu26 := Tryd.underlying26
  unfold depotref24_Read.f at h
  obtain ⟨LS, hLS, h⟩ := Option.bind_eq_some_iff.mp h
  split at h
  case isFalse => cases h
  case isTrue hln =>
  have HH := Aside0.mk h
  have HLN := Aside0.mk hln
  clear h hln
  go_enter Tryd.func20, Tryd.ntmps20
  go_wp2_with (first | ((with_reducible refine gate_dst (N := 2) rfl ?_); refine box_event ?hg (N := 2) ?hd (cs := #[.slice none 0 0, .slice none 0 0, .slice none 0 0]) (t := 26) ?hr ?_; (case hd => rfl); (case hg => rfl); (case hr => first | (go_simp; done) | (go_simp; rfl)); intro gr hg_gr w4 hbox hb; have BR4 := Aside0.mk hbox; have HB4 := Aside0.mk hb; have GR := Aside0.mk hg_gr; clear hbox hb hg_gr) | ((with_reducible refine gate_dst (N := 5) rfl ?_); refine box_event ?hg (N := 5) ?hd (cs := #[.slice none 0 0, .slice none 0 0, .slice none 0 0]) (t := 26) ?hr ?_; (case hd => rfl); (case hg => rfl); (case hr => first | (go_simp; done) | (go_simp; rfl)); intro gq hg_gq w5 hbox hb; have BR5 := Aside0.mk (blk_below BR4.out hb); have BO5 := Aside0.mk hbox; have HB5 := Aside0.mk (below_step HB4.out hb); have GO := Aside0.mk (show gr < gq by rw [hg_gq]; exact blk_lt BR4.out); clear hbox hb hg_gq HB4 BR4; have cq0 : w5.cell? ⟨gq, 0, none⟩ = some (.slice none 0 0) := (blk_cell BO5.out 0).trans rfl; have cq1 : w5.cell? ⟨gq, 1, none⟩ = some (.slice none 0 0) := (blk_cell BO5.out 1).trans rfl; have cq2 : w5.cell? ⟨gq, 2, none⟩ = some (.slice none 0 0) := (blk_cell BO5.out 2).trans rfl; have fq0 := blk_frozen BO5.out 0; have fq1 := blk_frozen BO5.out 1; have fq2 := blk_frozen BO5.out 2) | (go_at_call 44; refine (depotref03_Lines.calls k a0 LS _ hLS).mono ?_; rintro e w7 ⟨vL, rfl, ho7, hb7⟩; obtain ⟨AL, cL, eL⟩ := Kd.R_slice ho7; subst eL; have HO7 := Aside0.mk ho7; have HB7 := Aside0.mk hb7; clear ho7 hb7))
  have BO6 := Aside0.mk (depotref24_Read.three (u0 := .slice none 0 0) (u1 := .slice none 0 0) (u2 := .slice none 0 0) BO5.out)
  have HNG := Aside0.mk (show gr ≠ gq from Nat.ne_of_lt GO.out)
  have HGQ := Aside0.mk (show w.heap.size ≤ gq by have h1 := GR.out; have h2 := GO.out; omega)
  have HGR := Aside0.mk (show w.heap.size ≤ gr by have h1 := GR.out; omega)
  have BR6 := Aside0.mk (show (((w5.setCell ⟨gq, 0, none⟩ (.slice none 0 0)).setCell ⟨gq, 1, none⟩ (.slice none 0 0)).setCell ⟨gq, 2, none⟩ (.slice none 0 0)).heap[gr]? = some (.cells #[.slice none 0 0, .slice none 0 0, .slice none 0 0] 26 (0, 0)) from (Below.heap_setCell _ ⟨gq, 2, none⟩ _ gr HNG.out).trans ((Below.heap_setCell _ ⟨gq, 1, none⟩ _ gr HNG.out).trans ((Below.heap_setCell _ ⟨gq, 0, none⟩ _ gr HNG.out).trans BR5.out)))
  have HB6 := Aside0.mk (below_set (j := 2) (v := .slice none 0 0) (below_set (j := 1) (v := .slice none 0 0) (below_set (j := 0) (v := .slice none 0 0) HB5.out HGQ.out) HGQ.out) HGQ.out)
  have BO7 := Aside0.mk (blk_below BO6.out HB7.out)
  have BR7 := Aside0.mk (blk_below BR6.out HB7.out)
  have HB8 := Aside0.mk (below_step HB6.out HB7.out)
  have HX7 := Aside0.mk (Kd.R_lower HO7.out (show w.heap.size ≤ _ from HB6.out.size))
  clear BO6 BR6 HB6 BO5 BR5 HB5 HB7 HO7 cq0 cq1 cq2 fq0 fq1 fq2
  go_loopg [7] LS.length (fun gg s7 wr => ∃ (y : Nat) (v0 v1 v2 : Value) (q : depotref24_Read.Q), s7 = .int .i64 (y : Int) ∧ y ≤ LS.length ∧ LS.length - y ≤ gg ∧ Aside0 (wr.heap[gq]? = some (.cells #[v0, v1, v2] 26 (0, 0))) ∧ Aside0 (depotref24_Read.Tr w.heap.size (fun k => w.heap.size ≤ k ∧ k ≠ gq ∧ k ≠ gr) v0 v1 v2 q.1 q.2.1 q.2.2 wr) ∧ Aside0 (Kd.R Kd.string 9 wr w.heap.size (fun _ => True) (.slice AL LS.length cL) LS) ∧ Aside0 (wr.heap[gr]? = some (.cells #[.slice none 0 0, .slice none 0 0, .slice none 0 0] 26 (0, 0))) ∧ Aside0 (Below w.heap.size w wr) ∧ Aside0 (depotref24_Read.lines k (LS.drop y) y q = some (r1, r2, r3, r4, r5)))
  case atStart => exact ⟨0, .slice none 0 0, .slice none 0 0, .slice none 0 0, ([], [], []), rfl, by omega, by omega, BO7, ⟨Kd.N_nil _ _ _ _ _, Kd.R_nil _ _ _ _ _, Kd.R_nil _ _ _ _ _⟩, HX7, BR7, HB8, HH⟩
  case round =>
    clear HH BO7 BR7 HB8 HX7
    obtain ⟨y, v0, v1, v2, q, rfl, hy, hgy, BO, HTr, HX, BR, HBl, HN⟩ := hrel
    have hng := HNG.out
    have hnh := Ne.symm HNG.out
    by_cases hly : y < LS.length
    · obtain ⟨gk2, rfl⟩ : ∃ g, gk = g + 1 := ⟨gk - 1, by omega⟩
      have HY := Aside0.mk (show y + 1 ≤ LS.length ∧ LS.length - (y + 1) ≤ gk2 ∧ wrap64 ((y : Int) + 1) = ((y + 1 : Nat) : Int) by have hl0 := HLN.out; refine ⟨by omega, by omega, ?_⟩; unfold wrap64; omega)
      have hdr : LS.drop y = LS[y] :: LS.drop (y + 1) := List.drop_eq_getElem_cons hly
      have H := HN.out
      rw [hdr, depotref24_Read.lines] at H
      clear HN hdr
      obtain ⟨⟨tw, tr⟩, hpt, H⟩ := Option.bind_eq_some_iff.mp H
      simp only at H
      have h0 : (0 : Int) ≤ (y : Int) := by omega
      have h1 : (y : Int) < (LS.length : Int) := by omega
      have hxs : Kd.string.C wr AL LS.length LS := (Kd.R_reads' HX.out).2.2
      obtain ⟨ad, ead, hx0⟩ := Kd.at_string hxs (y : Int) h0 h1
      subst ead
      simp only [Int.toNat_natCast] at hx0
      have erd : rdOf ByteArray.empty LS (y : Int) = LS[y] := by unfold rdOf; rw [Int.toNat_natCast, List.getD_eq_getElem?_getD, List.getElem?_eq_getElem hly, Option.getD_some]
      rw [erd] at hx0
      clear erd hxs
      have q0 : decide ((y : Int) < (LS.length : Int)) = true := decide_eq_true h1
      have q1 := eq_true h0
      have q2 := eq_true h1
      clear h0 h1
      have HP := Aside0.mk hpt
      have HY2 := Aside0.mk HY.out.2.2
      clear hpt
      obtain ⟨A0, c0, e0⟩ := Kd.N_slice HTr.out.1
      subst e0
      obtain ⟨A1, c1, e1⟩ := Kd.R_slice HTr.out.2.1
      subst e1
      obtain ⟨A2, c2, e2⟩ := Kd.R_slice HTr.out.2.2
      subst e2
      cases hd : tw.data.toList with
      | nil =>
        have e : tw = ⟨#[]⟩ := by obtain ⟨⟨x⟩⟩ := tw; exact congrArg (fun l => (⟨⟨l⟩⟩ : ByteArray)) hd
        have hid : depotref24_Read.idle tw = true := by unfold depotref24_Read.idle; rw [hd]
        rw [hid, if_pos rfl] at H
        have H3 := Aside0.mk H
        have z1 : ((tw.size : Int) == 0) = true := by rw [e]; rfl
        clear H hid hd e
        go_wp2_with (go_at_call 45; refine (depotref24_Parted.calls k LS[y] tw tr wr HP.out).mono ?_; rintro e w8 ⟨rfl, hd8⟩; have HB8 := Aside0.mk hd8.below; have BO8 := Aside0.mk (blk_below BO.out HB8.out); have BR8 := Aside0.mk (blk_below BR.out HB8.out); have HT8 := Aside0.mk (depotref24_Read.Tr_below HTr.out HB8.out); have HX8 := Aside0.mk (Kd.R_below HX.out HB8.out); have HC8 := Aside0.mk (below_step HBl.out HB8.out); clear hd8; have oc0 : w8.cell? ⟨gq, 0, none⟩ = some (.slice A0 q.1.length c0) := (blk_cell BO8.out 0).trans rfl; have oz0 := blk_frozen BO8.out 0; have oc1 : w8.cell? ⟨gq, 1, none⟩ = some (.slice A1 q.2.1.length c1) := (blk_cell BO8.out 1).trans rfl; have oz1 := blk_frozen BO8.out 1; have oc2 : w8.cell? ⟨gq, 2, none⟩ = some (.slice A2 q.2.2.length c2) := (blk_cell BO8.out 2).trans rfl; have oz2 := blk_frozen BO8.out 2)
        go_roundg gk2
        case measure => exact Nat.lt_succ_self gk2
        case rel => exact ⟨y + 1, _, _, _, q, (by first | exact congrArg (Value.int .i64) HY2.out | rfl), HY.out.1, HY.out.2.1, BO8, HT8, HX8, BR8, HC8, H3⟩
      | cons c0_ rest_ =>
        have hpos : 0 < tw.size := by
          have h1 : tw.data.toList.length = tw.size := by simp
          rw [hd, List.length_cons] at h1
          omega
        have hc0 : tw[0]'hpos = c0_ := by
          have h1 : tw.data.toList[0]? = some c0_ := by rw [hd]; rfl
          have h2 : tw.data.toList[0]? = some (tw[0]'hpos) := List.getElem?_eq_getElem (by simpa using hpos)
          exact Option.some.inj (h2.symm.trans h1)
        have z1 : ((tw.size : Int) == 0) = false := beq_eq_false_iff_ne.2 (by omega)
        have z3 : ((0 : Int) < (tw.size : Int)) = True := eq_true (by omega)
        cases hc : (c0_ == 35) with
        | true =>
          have hid : depotref24_Read.idle tw = true := by unfold depotref24_Read.idle; rw [hd]; exact hc
          rw [hid, if_pos rfl] at H
          have H3 := Aside0.mk H
          have z4 : ((((tw[0]'hpos).toNat : Nat) : Int) == 35) = true := by rw [hc0, beq_iff_eq.1 hc]; rfl
          clear H hid hd hc hc0
          go_wp2_with (go_at_call 45; refine (depotref24_Parted.calls k LS[y] tw tr wr HP.out).mono ?_; rintro e w8 ⟨rfl, hd8⟩; have HB8 := Aside0.mk hd8.below; have BO8 := Aside0.mk (blk_below BO.out HB8.out); have BR8 := Aside0.mk (blk_below BR.out HB8.out); have HT8 := Aside0.mk (depotref24_Read.Tr_below HTr.out HB8.out); have HX8 := Aside0.mk (Kd.R_below HX.out HB8.out); have HC8 := Aside0.mk (below_step HBl.out HB8.out); clear hd8; have oc0 : w8.cell? ⟨gq, 0, none⟩ = some (.slice A0 q.1.length c0) := (blk_cell BO8.out 0).trans rfl; have oz0 := blk_frozen BO8.out 0; have oc1 : w8.cell? ⟨gq, 1, none⟩ = some (.slice A1 q.2.1.length c1) := (blk_cell BO8.out 1).trans rfl; have oz1 := blk_frozen BO8.out 1; have oc2 : w8.cell? ⟨gq, 2, none⟩ = some (.slice A2 q.2.2.length c2) := (blk_cell BO8.out 2).trans rfl; have oz2 := blk_frozen BO8.out 2)
          go_roundg gk2
          case measure => exact Nat.lt_succ_self gk2
          case rel => exact ⟨y + 1, _, _, _, q, (by first | exact congrArg (Value.int .i64) HY2.out | rfl), HY.out.1, HY.out.2.1, BO8, HT8, HX8, BR8, HC8, H3⟩
        | false =>
          have hid : depotref24_Read.idle tw = false := by unfold depotref24_Read.idle; rw [hd]; exact hc
          rw [hid, if_neg (by decide)] at H
          have z4 : ((((tw[0]'hpos).toNat : Nat) : Int) == 35) = false := by
            rw [hc0]
            refine beq_eq_false_iff_ne.2 (fun e => ?_)
            have h1 : c0_ = 35 := UInt8.toNat_inj.1 (by have h2 : (35 : UInt8).toNat = 35 := rfl; omega)
            rw [h1] at hc
            exact absurd hc (by decide)
          clear hid hd hc hc0
          obtain ⟨⟨q9, er⟩, hst, H⟩ := Option.bind_eq_some_iff.mp H
          simp only at H
          have HS := Aside0.mk hst
          clear hst
          by_cases he : er = 0
          · subst he
            rw [if_pos rfl] at H
            have H3 := Aside0.mk H
            clear H
            go_wp2_with (first | (go_at_call 45; refine (depotref24_Parted.calls k LS[y] tw tr wr HP.out).mono ?_; rintro e w8 ⟨rfl, hd8⟩; have HB8 := Aside0.mk hd8.below; have BO8 := Aside0.mk (blk_below BO.out HB8.out); have BR8 := Aside0.mk (blk_below BR.out HB8.out); have HT8 := Aside0.mk (depotref24_Read.Tr_below HTr.out HB8.out); have HX8 := Aside0.mk (Kd.R_below HX.out HB8.out); have HC8 := Aside0.mk (below_step HBl.out HB8.out); clear hd8; have oc0 : w8.cell? ⟨gq, 0, none⟩ = some (.slice A0 q.1.length c0) := (blk_cell BO8.out 0).trans rfl; have oz0 := blk_frozen BO8.out 0; have oc1 : w8.cell? ⟨gq, 1, none⟩ = some (.slice A1 q.2.1.length c1) := (blk_cell BO8.out 1).trans rfl; have oz1 := blk_frozen BO8.out 1; have oc2 : w8.cell? ⟨gq, 2, none⟩ = some (.slice A2 q.2.2.length c2) := (blk_cell BO8.out 2).trans rfl; have oz2 := blk_frozen BO8.out 2) | (go_at_call 46; refine (depotref24_Read.put_all k w w8 (fun k => w.heap.size ≤ k ∧ k ≠ gq ∧ k ≠ gr) (.slice A0 q.1.length c0) (.slice A1 q.2.1.length c1) (.slice A2 q.2.2.length c2) q.1 q.2.1 q.2.2 HT8.out (fun k hk => ⟨Nat.le_trans HC8.out.size hk, by have h1 := blk_lt BO8.out; omega, by have h1 := blk_lt BR8.out; omega⟩) HC8.out tw tr q9 _ HS.out).mono ?_; rintro e w9 ⟨u0, u1, u2, rfl, hT9, hB9, hS9⟩; obtain ⟨B0, d0, f0⟩ := Kd.N_slice hT9.1; subst f0; obtain ⟨B1, d1, f1⟩ := Kd.R_slice hT9.2.1; subst f1; obtain ⟨B2, d2, f2⟩ := Kd.R_slice hT9.2.2; subst f2; have HT9 := Aside0.mk hT9; have HB9 := Aside0.mk hB9; have BO9 := Aside0.mk (hS9 _ _ _ (by decide) (by decide) (by decide) BO8.out); have BR9 := Aside0.mk (hS9 _ _ _ (by decide) (by decide) (by decide) BR8.out); have HX9 := Aside0.mk (depotref24_Read.Stands_R HX8.out hS9); clear hT9 hB9 hS9 oc0 oz0 oc1 oz1 oc2 oz2) | ((with_reducible refine gate_dst (N := 10) rfl ?_); refine box_event ?hg (N := 10) ?hd (cs := #[.slice none 0 0, .slice none 0 0, .slice none 0 0]) (t := 26) ?hr ?_; (case hd => rfl); (case hg => rfl); (case hr => first | (go_simp; done) | (go_simp; rfl)); intro gn hgn w10 hbox hb; have BN10 := Aside0.mk hbox; have BO10 := Aside0.mk (blk_below BO9.out hb); have BR10 := Aside0.mk (blk_below BR9.out hb); have NGQ := Aside0.mk (show gn ≠ gq by have h1 := blk_lt BO9.out; omega); have NGR := Aside0.mk (show gn ≠ gr by have h1 := blk_lt BR9.out; omega); have HGN := Aside0.mk (show w.heap.size ≤ gn by have h1 := HB9.out.size; omega); have HT10 := Aside0.mk (depotref24_Read.Tr_mono (ok1 := fun k => (w.heap.size ≤ k ∧ k ≠ gq ∧ k ≠ gr) ∧ k ≠ gn) (depotref24_Read.Tr_below (depotref24_Read.Tr_bound HT9.out) hb) (fun k hk => ⟨hk.1, by have h1 := hk.2; omega⟩)); have HX10 := Aside0.mk (Rt (Rt (Kd.R_below HX9.out hb) BO10.out) hbox); have HB10 := Aside0.mk (below_step HB9.out hb); clear hbox hb hgn; have oc0 : w10.cell? ⟨gq, 0, none⟩ = some (.slice A0 q.1.length c0) := (blk_cell BO10.out 0).trans rfl; have oz0 := blk_frozen BO10.out 0; have oc1 : w10.cell? ⟨gq, 1, none⟩ = some (.slice A1 q.2.1.length c1) := (blk_cell BO10.out 1).trans rfl; have oz1 := blk_frozen BO10.out 1; have oc2 : w10.cell? ⟨gq, 2, none⟩ = some (.slice A2 q.2.2.length c2) := (blk_cell BO10.out 2).trans rfl; have oz2 := blk_frozen BO10.out 2; have rc0 : w10.cell? ⟨gr, 0, none⟩ = some (.slice none 0 0) := (blk_cell BR10.out 0).trans rfl; have rz0 := blk_frozen BR10.out 0; have rc1 : w10.cell? ⟨gr, 1, none⟩ = some (.slice none 0 0) := (blk_cell BR10.out 1).trans rfl; have rz1 := blk_frozen BR10.out 1; have rc2 : w10.cell? ⟨gr, 2, none⟩ = some (.slice none 0 0) := (blk_cell BR10.out 2).trans rfl; have rz2 := blk_frozen BR10.out 2; have nc0 : w10.cell? ⟨gn, 0, none⟩ = some (.slice none 0 0) := (blk_cell BN10.out 0).trans rfl; have nz0 := blk_frozen BN10.out 0; have nc1 : w10.cell? ⟨gn, 1, none⟩ = some (.slice none 0 0) := (blk_cell BN10.out 1).trans rfl; have nz1 := blk_frozen BN10.out 1; have nc2 : w10.cell? ⟨gn, 2, none⟩ = some (.slice none 0 0) := (blk_cell BN10.out 2).trans rfl; have nz2 := blk_frozen BN10.out 2; have nga := NGQ.out; have ngb := Ne.symm NGQ.out; have ngc := NGR.out; have ngd := Ne.symm NGR.out))
            go_roundg gk2
            case measure => exact Nat.lt_succ_self gk2
            case rel =>
              exact ⟨y + 1, _, _, _, q9, (by first | exact congrArg (Value.int .i64) HY2.out | rfl), HY.out.1, HY.out.2.1, ⟨depotref24_Read.three (depotref24_Read.far3 BO10.out (Ne.symm NGQ.out))⟩, ⟨depotref24_Read.Tr_mono (depotref24_Read.Tr_far3 (depotref24_Read.Tr_far3 HT10.out (fun k hk => hk.2)) (fun k hk => hk.1.2.1)) (fun k hk => hk.1)⟩,
                ⟨Kd.R_mono (depotref24_Read.R_far3 (depotref24_Read.R_far3 HX10.out (fun k hk => hk.2)) (fun k hk => hk.1.2)) (fun k hk => trivial)⟩, ⟨depotref24_Read.far3 (depotref24_Read.far3 BR10.out (Ne.symm NGR.out)) HNG.out⟩, ⟨depotref24_Read.below_set3 (depotref24_Read.below_set3 HB10.out HGN.out) HGQ.out⟩, H3⟩
          · rw [if_neg he] at H
            simp only [Option.some.injEq, Prod.mk.injEq] at H
            obtain ⟨rfl, rfl, rfl, rfl, rfl⟩ := H
            have z5 : (er == 0) = false := beq_eq_false_iff_ne.2 he
            have z6 : (er != 0) = true := bne_iff_ne.2 he
            go_wp2_with (first | (go_at_call 45; refine (depotref24_Parted.calls k LS[y] tw tr wr HP.out).mono ?_; rintro e w8 ⟨rfl, hd8⟩; have HB8 := Aside0.mk hd8.below; have BO8 := Aside0.mk (blk_below BO.out HB8.out); have BR8 := Aside0.mk (blk_below BR.out HB8.out); have HT8 := Aside0.mk (depotref24_Read.Tr_below HTr.out HB8.out); have HX8 := Aside0.mk (Kd.R_below HX.out HB8.out); have HC8 := Aside0.mk (below_step HBl.out HB8.out); clear hd8; have oc0 : w8.cell? ⟨gq, 0, none⟩ = some (.slice A0 q.1.length c0) := (blk_cell BO8.out 0).trans rfl; have oz0 := blk_frozen BO8.out 0; have oc1 : w8.cell? ⟨gq, 1, none⟩ = some (.slice A1 q.2.1.length c1) := (blk_cell BO8.out 1).trans rfl; have oz1 := blk_frozen BO8.out 1; have oc2 : w8.cell? ⟨gq, 2, none⟩ = some (.slice A2 q.2.2.length c2) := (blk_cell BO8.out 2).trans rfl; have oz2 := blk_frozen BO8.out 2) | (go_at_call 46; refine (depotref24_Read.put_all k w w8 (fun k => w.heap.size ≤ k ∧ k ≠ gq ∧ k ≠ gr) (.slice A0 q.1.length c0) (.slice A1 q.2.1.length c1) (.slice A2 q.2.2.length c2) q.1 q.2.1 q.2.2 HT8.out (fun k hk => ⟨Nat.le_trans HC8.out.size hk, by have h1 := blk_lt BO8.out; omega, by have h1 := blk_lt BR8.out; omega⟩) HC8.out tw tr q9 _ HS.out).mono ?_; rintro e w9 ⟨u0, u1, u2, rfl, hT9, hB9, hS9⟩; obtain ⟨B0, d0, f0⟩ := Kd.N_slice hT9.1; subst f0; obtain ⟨B1, d1, f1⟩ := Kd.R_slice hT9.2.1; subst f1; obtain ⟨B2, d2, f2⟩ := Kd.R_slice hT9.2.2; subst f2; have HT9 := Aside0.mk hT9; have HB9 := Aside0.mk hB9; have BO9 := Aside0.mk (hS9 _ _ _ (by decide) (by decide) (by decide) BO8.out); have BR9 := Aside0.mk (hS9 _ _ _ (by decide) (by decide) (by decide) BR8.out); have HX9 := Aside0.mk (depotref24_Read.Stands_R HX8.out hS9); clear hT9 hB9 hS9 oc0 oz0 oc1 oz1 oc2 oz2) | ((with_reducible refine gate_dst (N := 10) rfl ?_); refine box_event ?hg (N := 10) ?hd (cs := #[.slice none 0 0, .slice none 0 0, .slice none 0 0]) (t := 26) ?hr ?_; (case hd => rfl); (case hg => rfl); (case hr => first | (go_simp; done) | (go_simp; rfl)); intro gn hgn w10 hbox hb; have BN10 := Aside0.mk hbox; have BO10 := Aside0.mk (blk_below BO9.out hb); have BR10 := Aside0.mk (blk_below BR9.out hb); have NGQ := Aside0.mk (show gn ≠ gq by have h1 := blk_lt BO9.out; omega); have NGR := Aside0.mk (show gn ≠ gr by have h1 := blk_lt BR9.out; omega); have HGN := Aside0.mk (show w.heap.size ≤ gn by have h1 := HB9.out.size; omega); have HT10 := Aside0.mk (depotref24_Read.Tr_mono (ok1 := fun k => (w.heap.size ≤ k ∧ k ≠ gq ∧ k ≠ gr) ∧ k ≠ gn) (depotref24_Read.Tr_below (depotref24_Read.Tr_bound HT9.out) hb) (fun k hk => ⟨hk.1, by have h1 := hk.2; omega⟩)); have HX10 := Aside0.mk (Rt (Rt (Kd.R_below HX9.out hb) BO10.out) hbox); have HB10 := Aside0.mk (below_step HB9.out hb); clear hbox hb hgn; have oc0 : w10.cell? ⟨gq, 0, none⟩ = some (.slice A0 q.1.length c0) := (blk_cell BO10.out 0).trans rfl; have oz0 := blk_frozen BO10.out 0; have oc1 : w10.cell? ⟨gq, 1, none⟩ = some (.slice A1 q.2.1.length c1) := (blk_cell BO10.out 1).trans rfl; have oz1 := blk_frozen BO10.out 1; have oc2 : w10.cell? ⟨gq, 2, none⟩ = some (.slice A2 q.2.2.length c2) := (blk_cell BO10.out 2).trans rfl; have oz2 := blk_frozen BO10.out 2; have rc0 : w10.cell? ⟨gr, 0, none⟩ = some (.slice none 0 0) := (blk_cell BR10.out 0).trans rfl; have rz0 := blk_frozen BR10.out 0; have rc1 : w10.cell? ⟨gr, 1, none⟩ = some (.slice none 0 0) := (blk_cell BR10.out 1).trans rfl; have rz1 := blk_frozen BR10.out 1; have rc2 : w10.cell? ⟨gr, 2, none⟩ = some (.slice none 0 0) := (blk_cell BR10.out 2).trans rfl; have rz2 := blk_frozen BR10.out 2; have nc0 : w10.cell? ⟨gn, 0, none⟩ = some (.slice none 0 0) := (blk_cell BN10.out 0).trans rfl; have nz0 := blk_frozen BN10.out 0; have nc1 : w10.cell? ⟨gn, 1, none⟩ = some (.slice none 0 0) := (blk_cell BN10.out 1).trans rfl; have nz1 := blk_frozen BN10.out 1; have nc2 : w10.cell? ⟨gn, 2, none⟩ = some (.slice none 0 0) := (blk_cell BN10.out 2).trans rfl; have nz2 := blk_frozen BN10.out 2; have nga := NGQ.out; have ngb := Ne.symm NGQ.out; have ngc := NGR.out; have ngd := Ne.symm NGR.out))
            refine bodyPost_ret (results_ctt rfl _ _ gr 26 #[.slice none 0 0, .slice none 0 0, .slice none 0 0] (0, 0) _ rfl (depotref24_Read.three (depotref24_Read.far3 BR10.out (Ne.symm NGR.out))) Tryd.underlying26 rfl (by kernel_rfl)) rfl ?_
            exact ⟨_, _, _, (by first | rfl | (rw [← HY2.out]; rfl)), Kd.N_nil _ _ _ _ _, Kd.R_nil _ _ _ _ _, Kd.R_nil _ _ _ _ _, depotref24_Read.below_set3 (depotref24_Read.below_set3 HB10.out HGN.out) HGR.out⟩
    · obtain rfl : y = LS.length := by omega
      have H := HN.out
      rw [List.drop_length, depotref24_Read.lines] at H
      obtain ⟨L9, F9, W9⟩ := q
      simp only [Option.some.injEq, Prod.mk.injEq] at H
      obtain ⟨rfl, rfl, rfl, rfl, rfl⟩ := H
      clear HN
      simp only at HTr
      have q0 : decide ((LS.length : Int) < (LS.length : Int)) = false := decide_eq_false (by omega)
      have q2 : ((LS.length : Int) < (LS.length : Int)) = False := eq_false (by omega)
      obtain ⟨A0, c0, e0⟩ := Kd.N_slice HTr.out.1
      subst e0
      obtain ⟨A1, c1, e1⟩ := Kd.R_slice HTr.out.2.1
      subst e1
      obtain ⟨A2, c2, e2⟩ := Kd.R_slice HTr.out.2.2
      subst e2
      have oc0 : wr.cell? ⟨gq, 0, none⟩ = some (.slice A0 L9.length c0) := (blk_cell BO.out 0).trans rfl; have oz0 := blk_frozen BO.out 0; have oc1 : wr.cell? ⟨gq, 1, none⟩ = some (.slice A1 F9.length c1) := (blk_cell BO.out 1).trans rfl; have oz1 := blk_frozen BO.out 1; have oc2 : wr.cell? ⟨gq, 2, none⟩ = some (.slice A2 W9.length c2) := (blk_cell BO.out 2).trans rfl; have oz2 := blk_frozen BO.out 2
      have rc0 : wr.cell? ⟨gr, 0, none⟩ = some (.slice none 0 0) := (blk_cell BR.out 0).trans rfl; have rz0 := blk_frozen BR.out 0; have rc1 : wr.cell? ⟨gr, 1, none⟩ = some (.slice none 0 0) := (blk_cell BR.out 1).trans rfl; have rz1 := blk_frozen BR.out 1; have rc2 : wr.cell? ⟨gr, 2, none⟩ = some (.slice none 0 0) := (blk_cell BR.out 2).trans rfl; have rz2 := blk_frozen BR.out 2
      go_wp2
      refine bodyPost_ret (results_ctt rfl _ _ gr 26 #[.slice A0 L9.length c0, .slice A1 F9.length c1, .slice A2 W9.length c2] (0, 0) _ rfl (depotref24_Read.three BR.out) Tryd.underlying26 rfl (by kernel_rfl)) rfl ?_
      have ht := depotref24_Read.Tr_far3 (u0 := .slice A0 L9.length c0) (u1 := .slice A1 F9.length c1) (u2 := .slice A2 W9.length c2) HTr.out (fun k hk => hk.2.2)
      refine ⟨_, _, _, rfl, ?_, ?_, ?_, depotref24_Read.below_set3 HBl.out HGR.out⟩
      · exact Kd.N_mono ht.1 (fun k hk => ⟨hk.1.1, hk.2⟩)
      · exact Kd.R_mono ht.2.1 (fun k hk => hk.1)
      · exact Kd.R_mono ht.2.2 (fun k hk => hk.1)
end Go.Proofs.YtmocooihkobdjaaDoor.Q
end
section
namespace Go.Proofs.YtmocooihkobdjaaDoor.Q
open Go.RowKit Go.Proofs.YtmocooihkobdjaaDoorW.PrintWords Go.Proofs.YtmocooihkobdjaaDoorW.PrintLast Go.Proofs.YtmocooihkobdjaaDoorW.PrintMore
attribute [local go_sem] max2_int min2_int max_two min_two max_three min_three max_four min_four
set_option linter.unusedVariables false
set_option linter.unusedSimpArgs false
def depotlaw24_RequestReads.f (k : Nat) (a0 : ByteArray) : Option (Bool) := (request_Read.f k a0).bind fun bt235 => ((depotref24_Read.f k a0).bind fun bt247 => ((request_Read.f k (⟨#[102, 111, 114, 98, 105, 100, 32, 97, 97]⟩ : ByteArray)).bind fun bt259 => (if bt235.2.2.2.1 = bt247.2.2.2.1 then (if bt235.2.2.2.2 = bt247.2.2.2.2 then ((depotref00_SameRequest.f k bt235.1 bt235.2.1 bt235.2.2.1 bt247.1 bt247.2.1 bt247.2.2.1).bind fun t271 => (if t271 = true then (if bt259.2.2.2.1 = 0 then (some ((bt259.2.1.length : Int) == 1)) else (some false)) else (some false))) else (some false)) else (some false))))
theorem depotlaw24_RequestReads.mono : ∀ a0 k, LeO (depotlaw24_RequestReads.f k a0) (depotlaw24_RequestReads.f (k + 1) a0) := by
 intro a0 k
 unfold depotlaw24_RequestReads.f
 repeat' first
   | (with_reducible exact depotref00_SameRequest.mono _ _ _ _ _ _ _)
   | (with_reducible exact depotref24_Read.mono _ _)
   | (with_reducible exact request_Read.mono _ _)
   | (with_reducible exact LeO.refl _)
   | (with_reducible exact LeO.none _)
   | (with_reducible refine LeO.ite ?_ ?_)
   | (with_reducible refine LeO.bind ?_ (fun _ => ?_))
   | exact depotref00_SameRequest.mono _ _ _ _ _ _ _
   | exact depotref24_Read.mono _ _
   | exact request_Read.mono _ _
   | exact LeO.none _
   | refine LeO.ite ?_ ?_
   | refine LeO.bind ?_ (fun _ => ?_)
set_option maxHeartbeats 8000000 in
set_option maxRecDepth 100000 in
theorem depotlaw24_RequestReads.calls (k : Nat) (a0 : ByteArray) (r : Bool) (w : World) (hG : GG w) (h : depotlaw24_RequestReads.f k a0 = some r) (hr : r = true) :
  Calls Tryd.prog 6 #[.string a0] w fun e w' => e = .returned (.bool r) ∧ Below w.heap.size w w' := by
 have hu26 := Tryd.underlying26
 have HB := Aside0.mk (Below.refl w.heap.size w)
 have HG := Aside0.mk hG
 clear hG
 have H : ((request_Read.f k a0).bind fun bt235 => ((depotref24_Read.f k a0).bind fun bt247 => ((request_Read.f k (⟨#[102, 111, 114, 98, 105, 100, 32, 97, 97]⟩ : ByteArray)).bind fun bt259 => (if bt235.2.2.2.1 = bt247.2.2.2.1 then (if bt235.2.2.2.2 = bt247.2.2.2.2 then ((depotref00_SameRequest.f k bt235.1 bt235.2.1 bt235.2.2.1 bt247.1 bt247.2.1 bt247.2.2.1).bind fun t271 => (if t271 = true then (if bt259.2.2.2.1 = 0 then (some ((bt259.2.1.length : Int) == 1)) else (some false)) else (some false))) else (some false)) else (some false))))) = some r := h
 clear h
 replace H := Option.bind_eq_some_iff.mp H
 obtain ⟨⟨t235, t238, t241, t244, t245⟩, A20, H⟩ := H
 replace H : ((depotref24_Read.f k a0).bind fun bt247 => ((request_Read.f k (⟨#[102, 111, 114, 98, 105, 100, 32, 97, 97]⟩ : ByteArray)).bind fun bt259 => (if t244 = bt247.2.2.2.1 then (if t245 = bt247.2.2.2.2 then ((depotref00_SameRequest.f k t235 t238 t241 bt247.1 bt247.2.1 bt247.2.2.1).bind fun t271 => (if t271 = true then (if bt259.2.2.2.1 = 0 then (some ((bt259.2.1.length : Int) == 1)) else (some false)) else (some false))) else (some false)) else (some false)))) = some r := H
 have A2 := Aside0.mk A20
 clear A20
 replace H := Option.bind_eq_some_iff.mp H
 obtain ⟨⟨t247, t250, t253, t256, t257⟩, A30, H⟩ := H
 replace H : ((request_Read.f k (⟨#[102, 111, 114, 98, 105, 100, 32, 97, 97]⟩ : ByteArray)).bind fun bt259 => (if t244 = t256 then (if t245 = t257 then ((depotref00_SameRequest.f k t235 t238 t241 t247 t250 t253).bind fun t271 => (if t271 = true then (if bt259.2.2.2.1 = 0 then (some ((bt259.2.1.length : Int) == 1)) else (some false)) else (some false))) else (some false)) else (some false))) = some r := H
 have A3 := Aside0.mk A30
 clear A30
 replace H := Option.bind_eq_some_iff.mp H
 obtain ⟨⟨t259, t262, t265, t268, t269⟩, A40, H⟩ := H
 replace H : (if t244 = t256 then (if t245 = t257 then ((depotref00_SameRequest.f k t235 t238 t241 t247 t250 t253).bind fun t271 => (if t271 = true then (if t268 = 0 then (some ((t262.length : Int) == 1)) else (some false)) else (some false))) else (some false)) else (some false)) = some r := H
 have A4 := Aside0.mk A40
 clear A40
 by_cases c5 : t244 = t256
 ·rw [if_pos c5] at H
  have c5b0 : (t244 == t256) = true := beq_iff_eq.mpr c5
  have c5b1 : (t244 != t256) = false := bne_eq_false_iff_eq.mpr c5
  clear c5
  by_cases c6 : t245 = t257
  ·rw [if_pos c6] at H
   have c6b0 : (t245 == t257) = true := beq_iff_eq.mpr c6
   have c6b1 : (t245 != t257) = false := bne_eq_false_iff_eq.mpr c6
   clear c6
   replace H := Option.bind_eq_some_iff.mp H
   obtain ⟨t271, A70, H⟩ := H
   replace H : (if t271 = true then (if t268 = 0 then (some ((t262.length : Int) == 1)) else (some false)) else (some false)) = some r := H
   have A7 := Aside0.mk A70
   clear A70
   by_cases c8 : t271 = true
   ·subst c8
    have H1 : (if t268 = 0 then (some ((t262.length : Int) == 1)) else (some false)) = some r := by rw [if_pos rfl] at H; exact H
    clear H
    have H := H1
    clear H1
    by_cases c9 : t268 = 0
    ·rw [if_pos c9] at H
     have c9b0 : (t268 == 0) = true := beq_iff_eq.mpr c9
     have c9b1 : (t268 != 0) = false := bne_eq_false_iff_eq.mpr c9
     clear c9
     obtain rfl := Option.some.inj H
     go_enter Tryd.func6, Tryd.ntmps6
     go_wp2_with (first | ((with_reducible refine gate_callee (f := 19) rfl ?_); refine goesL_ (some 14) rfl rfl Tryd.func19 (by kernel_rfl) rfl #[.string a0] rfl (by (try simp only [List.map_toArray, List.map_cons, List.map_nil]); first | done | rfl | (simp only [List.length_drop, List.length_take]; rfl) | (simp; done)) ?_; (with_reducible refine (request_Read.calls k a0 t235 t238 t241 t244 t245 _ ?side1 A2.out).mono ?_); (case side1 => exact GG.below HG.out (W0 HB.out)); rintro e w10 ⟨v236, v239, v242, rfl, ho0, ho1, ho2, hb⟩; refine ⟨_, rfl, ?_⟩; have n0_ := Aside0.mk (Kd.N_lower (Kd.N_mono (ok' := fun k_ => some k_ ≠ (v239 : Value).ownBlock ∧ some k_ ≠ (v242 : Value).ownBlock) ho0 (fun k_ hk_ => ⟨hk_.2.1, hk_.2.2⟩)) (below_size (W0 HB.out))); have n1_ := Aside0.mk (Kd.R_lower (Kd.R_mono (ok' := fun k_ => True) ho1 (fun _ hk_ => trivial)) (below_size (W0 HB.out))); have n2_ := Aside0.mk (Kd.R_lower (Kd.R_mono (ok' := fun k_ => True) ho2 (fun _ hk_ => trivial)) (below_size (W0 HB.out))); have n3_ := Aside0.mk (below_step (W0 HB.out) hb); clear HB; have HO237 := n0_; have HO240 := n1_; have HO243 := n2_; have HB := n3_; clear n0_ n1_ n2_ n3_; (try clear hb); (try clear hb2); (try clear hk); (try clear hi); (try clear ho0); (try clear ho1); (try clear ho2)) | ((with_reducible refine gate_dst (N := 3) rfl ?_); (try (refine gate_guard (by rfl) ?_; dsimp only)); refine box_event ?hg (N := 3) ?hd (cs := #[.slice none 0 0, .slice none 0 0, .slice none 0 0]) (t := 26) ?hr ?_; (case hd => rfl); (case hg => rfl); (case hr => first | (go_simp; done) | (go_simp; rfl)); intro gb246 hg w11 hbox hb; have n0_ := Aside0.mk (Kd.N_below (Kd.N_elderB (Nq HO237.out) gb246 (Nat.le_of_eq hg.symm)) hb); have n1_ := Aside0.mk (Kd.R_below (Rq HO240.out) hb); have n2_ := Aside0.mk (Kd.R_below (Rq HO243.out) hb); have n3_ := Aside0.mk (below_step (W0 HB.out) hb); have n4_ := Aside0.mk (hbox); have n5_ := Aside0.mk ((by rw [hg]; exact (below_size (W0 HB.out)) : w.heap.size ≤ gb246)); have n6_ := Aside0.mk ((by rw [hg]; exact (below_size (W0 HB.out)) : w.heap.size ≤ gb246)); clear HO237; clear HO240; clear HO243; clear HB; have HO237 := n0_; have HO240 := n1_; have HO243 := n2_; have HB := n3_; have BK246 := n4_; have GW246 := n5_; have GE246 := n6_; clear n0_ n1_ n2_ n3_ n4_ n5_ n6_; clear hb hbox hg; obtain ⟨Ao12, co12, eo12⟩ := Kd.N_slice HO237.out; subst eo12; have hcz13_0 : w11.cell? ⟨gb246, 0, none⟩ = some (.slice none 0 0) := (blk_cell BK246.out 0).trans rfl; have hcz13_1 : w11.cell? ⟨gb246, 1, none⟩ = some (.slice none 0 0) := (blk_cell BK246.out 1).trans rfl; have hcz13_2 : w11.cell? ⟨gb246, 2, none⟩ = some (.slice none 0 0) := (blk_cell BK246.out 2).trans rfl; have hfz13_0 := blk_frozen BK246.out 0; have hfz13_1 := blk_frozen BK246.out 1; have hfz13_2 := blk_frozen BK246.out 2; obtain ⟨Ao14, co14, eo14⟩ := Kd.R_slice HO240.out; subst eo14; obtain ⟨Ao15, co15, eo15⟩ := Kd.R_slice HO243.out; subst eo15) | ((with_reducible refine gate_callee (f := 20) rfl ?_); refine goesL_ (some 20) rfl rfl Tryd.func20 (by kernel_rfl) rfl #[.string a0] rfl (by (try simp only [List.map_toArray, List.map_cons, List.map_nil]); first | done | rfl | (simp only [List.length_drop, List.length_take]; rfl) | (simp; done)) ?_; (with_reducible refine (depotref24_Read.calls k a0 t247 t250 t253 t256 t257 _ A3.out).mono ?_); rintro e w16 ⟨v248, v251, v254, rfl, ho0, ho1, ho2, hb⟩; refine ⟨_, rfl, ?_⟩; have n0_ := Aside0.mk (Kd.N_mono (Kd.N_told (Kd.N_told (Kd.N_told (Kd.N_old (by (with_reducible repeat (first | apply Kd.N_alloc | apply Kd.N_drewN | apply Kd.N_drew)); exact (Kd.N_mono (Kd.N_far (p := ⟨gb246, 2, none⟩) (Kd.N_far (p := ⟨gb246, 1, none⟩) (Kd.N_far (p := ⟨gb246, 0, none⟩) (Kd.N_mono HO237.out (fun k_ hk => (⟨hk, hk.2⟩ : _ ∧ k_ ≠ gb246))) (fun _ hk => hk.2) (.slice Ao12 t235.length co12)) (fun _ hk => hk.2) (.slice Ao14 t238.length co14)) (fun _ hk => hk.2) (.slice Ao15 t241.length co15)) (fun _ h_ => h_.1))) hb) (by first | exact Kd.N_base ho0 | exact Kd.S_base ho0)) (Kd.R_base ho1)) (Kd.R_base ho2)) (fun _ h_ => h_.1)); have n1_ := Aside0.mk (Kd.R_elder' (by (with_reducible repeat (first | apply Kd.R_alloc | apply Kd.R_drewN | apply Kd.R_drew)); exact (Kd.R_mono (Kd.R_far (p := ⟨gb246, 2, none⟩) (Kd.R_far (p := ⟨gb246, 1, none⟩) (Kd.R_far (p := ⟨gb246, 0, none⟩) (Rt HO240.out BK246.out) (fun _ hk => hk.2) (.slice Ao12 t235.length co12)) (fun _ hk => hk.2) (.slice Ao14 t238.length co14)) (fun _ hk => hk.2) (.slice Ao15 t241.length co15)) (fun _ h_ => h_.1))) (Kd.R_base ho1) hb); have n2_ := Aside0.mk (Kd.R_elder' (by (with_reducible repeat (first | apply Kd.R_alloc | apply Kd.R_drewN | apply Kd.R_drew)); exact (Kd.R_mono (Kd.R_far (p := ⟨gb246, 2, none⟩) (Kd.R_far (p := ⟨gb246, 1, none⟩) (Kd.R_far (p := ⟨gb246, 0, none⟩) (Rt HO243.out BK246.out) (fun _ hk => hk.2) (.slice Ao12 t235.length co12)) (fun _ hk => hk.2) (.slice Ao14 t238.length co14)) (fun _ hk => hk.2) (.slice Ao15 t241.length co15)) (fun _ h_ => h_.1))) (Kd.R_base ho2) hb); have n3_ := Aside0.mk (Kd.N_lower (Kd.N_mono (ok' := fun k_ => some k_ ≠ (v251 : Value).ownBlock ∧ some k_ ≠ (v254 : Value).ownBlock ∧ some k_ ≠ (.slice Ao12 t235.length co12 : Value).ownBlock ∧ some k_ ≠ (.slice Ao14 t238.length co14 : Value).ownBlock ∧ some k_ ≠ (.slice Ao15 t241.length co15 : Value).ownBlock ∧ k_ ≠ gb246) ho0 (fun k_ hk_ => ⟨hk_.2.1, hk_.2.2, (Kd.fresh' (Kd.N_lt (by (with_reducible repeat (first | apply Kd.N_alloc | apply Kd.N_drewN | apply Kd.N_drew)); exact (Kd.N_mono (Kd.N_far (p := ⟨gb246, 2, none⟩) (Kd.N_far (p := ⟨gb246, 1, none⟩) (Kd.N_far (p := ⟨gb246, 0, none⟩) (Kd.N_mono HO237.out (fun k_ hk => (⟨hk, hk.2⟩ : _ ∧ k_ ≠ gb246))) (fun _ hk => hk.2) (.slice Ao12 t235.length co12)) (fun _ hk => hk.2) (.slice Ao14 t238.length co14)) (fun _ hk => hk.2) (.slice Ao15 t241.length co15)) (fun _ h_ => h_.1)))) k_ hk_.1), (Kd.fresh' (Kd.R_lt (by (with_reducible repeat (first | apply Kd.R_alloc | apply Kd.R_drewN | apply Kd.R_drew)); exact (Kd.R_mono (Kd.R_far (p := ⟨gb246, 2, none⟩) (Kd.R_far (p := ⟨gb246, 1, none⟩) (Kd.R_far (p := ⟨gb246, 0, none⟩) (Rt HO240.out BK246.out) (fun _ hk => hk.2) (.slice Ao12 t235.length co12)) (fun _ hk => hk.2) (.slice Ao14 t238.length co14)) (fun _ hk => hk.2) (.slice Ao15 t241.length co15)) (fun _ h_ => h_.1)))) k_ hk_.1), (Kd.fresh' (Kd.R_lt (by (with_reducible repeat (first | apply Kd.R_alloc | apply Kd.R_drewN | apply Kd.R_drew)); exact (Kd.R_mono (Kd.R_far (p := ⟨gb246, 2, none⟩) (Kd.R_far (p := ⟨gb246, 1, none⟩) (Kd.R_far (p := ⟨gb246, 0, none⟩) (Rt HO243.out BK246.out) (fun _ hk => hk.2) (.slice Ao12 t235.length co12)) (fun _ hk => hk.2) (.slice Ao14 t238.length co14)) (fun _ hk => hk.2) (.slice Ao15 t241.length co15)) (fun _ h_ => h_.1)))) k_ hk_.1), (Kd.freshB (g := gb246) (o := .cells #[.slice Ao12 t235.length co12, .slice Ao14 t238.length co14, .slice Ao15 t241.length co15] 26 (0, 0)) (by (with_reducible repeat (first | refine blk_drewN ?_ _ | refine blk_drew ?_ | refine blk_alloc ?_ _)); refine blk_put (cs := #[.slice Ao12 t235.length co12, .slice Ao14 t238.length co14, .slice none 0 0]) ?_ 2 _ rfl; (with_reducible repeat (first | refine blk_drewN ?_ _ | refine blk_drew ?_ | refine blk_alloc ?_ _)); refine blk_put (cs := #[.slice Ao12 t235.length co12, .slice none 0 0, .slice none 0 0]) ?_ 1 _ rfl; (with_reducible repeat (first | refine blk_drewN ?_ _ | refine blk_drew ?_ | refine blk_alloc ?_ _)); refine blk_put (cs := #[.slice none 0 0, .slice none 0 0, .slice none 0 0]) ?_ 0 _ rfl; (with_reducible repeat (first | refine blk_drewN ?_ _ | refine blk_drew ?_ | refine blk_alloc ?_ _)); exact BK246.out) k_ hk_.1)⟩)) (below_size (W1 HB.out GE246.out))); have n4_ := Aside0.mk (Kd.R_lower (Kd.R_new' (Kd.R_mono (ok' := fun k_ => True) ho1 (fun _ hk_ => trivial)) (Kd.R_lt (by (with_reducible repeat (first | apply Kd.R_alloc | apply Kd.R_drewN | apply Kd.R_drew)); exact (Kd.R_mono (Kd.R_far (p := ⟨gb246, 2, none⟩) (Kd.R_far (p := ⟨gb246, 1, none⟩) (Kd.R_far (p := ⟨gb246, 0, none⟩) (Rt HO240.out BK246.out) (fun _ hk => hk.2) (.slice Ao12 t235.length co12)) (fun _ hk => hk.2) (.slice Ao14 t238.length co14)) (fun _ hk => hk.2) (.slice Ao15 t241.length co15)) (fun _ h_ => h_.1))))) (below_size (W1 HB.out GE246.out))); have n5_ := Aside0.mk (Kd.R_lower (Kd.R_new' (Kd.R_mono (ok' := fun k_ => True) ho2 (fun _ hk_ => trivial)) (Kd.R_lt (by (with_reducible repeat (first | apply Kd.R_alloc | apply Kd.R_drewN | apply Kd.R_drew)); exact (Kd.R_mono (Kd.R_far (p := ⟨gb246, 2, none⟩) (Kd.R_far (p := ⟨gb246, 1, none⟩) (Kd.R_far (p := ⟨gb246, 0, none⟩) (Rt HO243.out BK246.out) (fun _ hk => hk.2) (.slice Ao12 t235.length co12)) (fun _ hk => hk.2) (.slice Ao14 t238.length co14)) (fun _ hk => hk.2) (.slice Ao15 t241.length co15)) (fun _ h_ => h_.1))))) (below_size (W1 HB.out GE246.out))); have n6_ := Aside0.mk (blk_below (g := gb246) (o := .cells #[.slice Ao12 t235.length co12, .slice Ao14 t238.length co14, .slice Ao15 t241.length co15] 26 (0, 0)) (by (with_reducible repeat (first | refine blk_drewN ?_ _ | refine blk_drew ?_ | refine blk_alloc ?_ _)); refine blk_put (cs := #[.slice Ao12 t235.length co12, .slice Ao14 t238.length co14, .slice none 0 0]) ?_ 2 _ rfl; (with_reducible repeat (first | refine blk_drewN ?_ _ | refine blk_drew ?_ | refine blk_alloc ?_ _)); refine blk_put (cs := #[.slice Ao12 t235.length co12, .slice none 0 0, .slice none 0 0]) ?_ 1 _ rfl; (with_reducible repeat (first | refine blk_drewN ?_ _ | refine blk_drew ?_ | refine blk_alloc ?_ _)); refine blk_put (cs := #[.slice none 0 0, .slice none 0 0, .slice none 0 0]) ?_ 0 _ rfl; (with_reducible repeat (first | refine blk_drewN ?_ _ | refine blk_drew ?_ | refine blk_alloc ?_ _)); exact BK246.out) hb); have n7_ := Aside0.mk (below_step (W1 HB.out GE246.out) hb); clear HO237; clear HO240; clear HO243; clear BK246; clear HB; have HO237 := n0_; have HO240 := n1_; have HO243 := n2_; have HO249 := n3_; have HO252 := n4_; have HO255 := n5_; have BK246 := n6_; have HB := n7_; clear n0_ n1_ n2_ n3_ n4_ n5_ n6_ n7_; (try clear hb); (try clear hb2); (try clear hk); (try clear hi); (try clear ho0); (try clear ho1); (try clear ho2)) | ((with_reducible refine gate_dst (N := 6) rfl ?_); (try (refine gate_guard (by rfl) ?_; dsimp only)); refine box_event ?hg (N := 6) ?hd (cs := #[.slice none 0 0, .slice none 0 0, .slice none 0 0]) (t := 26) ?hr ?_; (case hd => rfl); (case hg => rfl); (case hr => first | (go_simp; done) | (go_simp; rfl)); intro gb258 hg w17 hbox hb; have n0_ := Aside0.mk (Kd.N_below (Kd.N_elderB (Nq HO237.out) gb258 (Nat.le_of_eq hg.symm)) hb); have n1_ := Aside0.mk (Kd.R_below (Rq HO240.out) hb); have n2_ := Aside0.mk (Kd.R_below (Rq HO243.out) hb); have n3_ := Aside0.mk (Kd.N_below (Kd.N_elderB (Nq HO249.out) gb258 (Nat.le_of_eq hg.symm)) hb); have n4_ := Aside0.mk (Kd.R_below (Rq HO252.out) hb); have n5_ := Aside0.mk (Kd.R_below (Rq HO255.out) hb); have n6_ := Aside0.mk (blk_below (g := gb246) (Bq BK246.out) hb); have n7_ := Aside0.mk (below_step (W1 HB.out GE246.out) hb); have n8_ := Aside0.mk (hbox); have n9_ := Aside0.mk ((by rw [hg]; exact (below_size (W1 HB.out GE246.out)) : w.heap.size ≤ gb258)); have n10_ := Aside0.mk ((by rw [hg]; exact (below_size (W1 HB.out GE246.out)) : w.heap.size ≤ gb258)); have n11_ := Aside0.mk ((by rw [hg]; exact Nat.ne_of_lt (blk_lt (g := gb246) (Bq BK246.out)) : gb246 ≠ gb258)); have n12_ := Aside0.mk ((by rw [hg]; exact Nat.ne_of_gt (blk_lt (g := gb246) (Bq BK246.out)) : gb258 ≠ gb246)); clear HO237; clear HO240; clear HO243; clear HO249; clear HO252; clear HO255; clear BK246; clear HB; have HO237 := n0_; have HO240 := n1_; have HO243 := n2_; have HO249 := n3_; have HO252 := n4_; have HO255 := n5_; have BK246 := n6_; have HB := n7_; have BK258 := n8_; have GW258 := n9_; have GE258 := n10_; have NB246_258 := n11_; have NB258_246 := n12_; clear n0_ n1_ n2_ n3_ n4_ n5_ n6_ n7_ n8_ n9_ n10_ n11_ n12_; clear hb hbox hg; obtain ⟨Ao18, co18, eo18⟩ := Kd.N_slice HO249.out; subst eo18; have hnb19 := NB258_246.out; have hnc19 := NB246_258.out; have hcz20_0 : w17.cell? ⟨gb258, 0, none⟩ = some (.slice none 0 0) := (blk_cell BK258.out 0).trans rfl; have hcz20_1 : w17.cell? ⟨gb258, 1, none⟩ = some (.slice none 0 0) := (blk_cell BK258.out 1).trans rfl; have hcz20_2 : w17.cell? ⟨gb258, 2, none⟩ = some (.slice none 0 0) := (blk_cell BK258.out 2).trans rfl; have hfz20_0 := blk_frozen BK258.out 0; have hfz20_1 := blk_frozen BK258.out 1; have hfz20_2 := blk_frozen BK258.out 2; obtain ⟨Ao21, co21, eo21⟩ := Kd.R_slice HO252.out; subst eo21; obtain ⟨Ao22, co22, eo22⟩ := Kd.R_slice HO255.out; subst eo22) | ((with_reducible refine gate_callee (f := 19) rfl ?_); refine goesL_ (some 25) rfl rfl Tryd.func19 (by kernel_rfl) rfl #[.string (⟨#[102, 111, 114, 98, 105, 100, 32, 97, 97]⟩ : ByteArray)] rfl (by (try simp only [List.map_toArray, List.map_cons, List.map_nil]); first | done | rfl | (simp only [List.length_drop, List.length_take]; rfl) | (simp; done)) ?_; (with_reducible refine (request_Read.calls k (⟨#[102, 111, 114, 98, 105, 100, 32, 97, 97]⟩ : ByteArray) t259 t262 t265 t268 t269 _ ?side1 A4.out).mono ?_); (case side1 => exact GG.below HG.out (W2 HB.out GE246.out GE258.out)); rintro e w23 ⟨v260, v263, v266, rfl, ho0, ho1, ho2, hb⟩; refine ⟨_, rfl, ?_⟩; have n0_ := Aside0.mk (Kd.N_mono (Kd.N_told (Kd.N_told (Kd.N_told (Kd.N_old (by (with_reducible repeat (first | apply Kd.N_alloc | apply Kd.N_drewN | apply Kd.N_drew)); exact (Kd.N_mono (Kd.N_far (p := ⟨gb258, 2, none⟩) (Kd.N_far (p := ⟨gb258, 1, none⟩) (Kd.N_far (p := ⟨gb258, 0, none⟩) (Kd.N_mono HO237.out (fun k_ hk => (⟨hk, hk.2⟩ : _ ∧ k_ ≠ gb258))) (fun _ hk => hk.2) (.slice Ao18 t247.length co18)) (fun _ hk => hk.2) (.slice Ao21 t250.length co21)) (fun _ hk => hk.2) (.slice Ao22 t253.length co22)) (fun _ h_ => h_.1))) hb) (by first | exact Kd.N_base ho0 | exact Kd.S_base ho0)) (Kd.R_base ho1)) (Kd.R_base ho2)) (fun _ h_ => h_.1)); have n1_ := Aside0.mk (Kd.R_elder' (by (with_reducible repeat (first | apply Kd.R_alloc | apply Kd.R_drewN | apply Kd.R_drew)); exact (Kd.R_mono (Kd.R_far (p := ⟨gb258, 2, none⟩) (Kd.R_far (p := ⟨gb258, 1, none⟩) (Kd.R_far (p := ⟨gb258, 0, none⟩) (Rt HO240.out BK258.out) (fun _ hk => hk.2) (.slice Ao18 t247.length co18)) (fun _ hk => hk.2) (.slice Ao21 t250.length co21)) (fun _ hk => hk.2) (.slice Ao22 t253.length co22)) (fun _ h_ => h_.1))) (Kd.R_base ho1) hb); have n2_ := Aside0.mk (Kd.R_elder' (by (with_reducible repeat (first | apply Kd.R_alloc | apply Kd.R_drewN | apply Kd.R_drew)); exact (Kd.R_mono (Kd.R_far (p := ⟨gb258, 2, none⟩) (Kd.R_far (p := ⟨gb258, 1, none⟩) (Kd.R_far (p := ⟨gb258, 0, none⟩) (Rt HO243.out BK258.out) (fun _ hk => hk.2) (.slice Ao18 t247.length co18)) (fun _ hk => hk.2) (.slice Ao21 t250.length co21)) (fun _ hk => hk.2) (.slice Ao22 t253.length co22)) (fun _ h_ => h_.1))) (Kd.R_base ho2) hb); have n3_ := Aside0.mk (Kd.N_mono (Kd.N_told (Kd.N_told (Kd.N_told (Kd.N_old (by (with_reducible repeat (first | apply Kd.N_alloc | apply Kd.N_drewN | apply Kd.N_drew)); exact (Kd.N_mono (Kd.N_far (p := ⟨gb258, 2, none⟩) (Kd.N_far (p := ⟨gb258, 1, none⟩) (Kd.N_far (p := ⟨gb258, 0, none⟩) (Kd.N_mono HO249.out (fun k_ hk => (⟨hk, hk.2⟩ : _ ∧ k_ ≠ gb258))) (fun _ hk => hk.2) (.slice Ao18 t247.length co18)) (fun _ hk => hk.2) (.slice Ao21 t250.length co21)) (fun _ hk => hk.2) (.slice Ao22 t253.length co22)) (fun _ h_ => h_.1))) hb) (by first | exact Kd.N_base ho0 | exact Kd.S_base ho0)) (Kd.R_base ho1)) (Kd.R_base ho2)) (fun _ h_ => h_.1)); have n4_ := Aside0.mk (Kd.R_elder' (by (with_reducible repeat (first | apply Kd.R_alloc | apply Kd.R_drewN | apply Kd.R_drew)); exact (Kd.R_mono (Kd.R_far (p := ⟨gb258, 2, none⟩) (Kd.R_far (p := ⟨gb258, 1, none⟩) (Kd.R_far (p := ⟨gb258, 0, none⟩) (Rt HO252.out BK258.out) (fun _ hk => hk.2) (.slice Ao18 t247.length co18)) (fun _ hk => hk.2) (.slice Ao21 t250.length co21)) (fun _ hk => hk.2) (.slice Ao22 t253.length co22)) (fun _ h_ => h_.1))) (Kd.R_base ho1) hb); have n5_ := Aside0.mk (Kd.R_elder' (by (with_reducible repeat (first | apply Kd.R_alloc | apply Kd.R_drewN | apply Kd.R_drew)); exact (Kd.R_mono (Kd.R_far (p := ⟨gb258, 2, none⟩) (Kd.R_far (p := ⟨gb258, 1, none⟩) (Kd.R_far (p := ⟨gb258, 0, none⟩) (Rt HO255.out BK258.out) (fun _ hk => hk.2) (.slice Ao18 t247.length co18)) (fun _ hk => hk.2) (.slice Ao21 t250.length co21)) (fun _ hk => hk.2) (.slice Ao22 t253.length co22)) (fun _ h_ => h_.1))) (Kd.R_base ho2) hb); have n6_ := Aside0.mk (Kd.N_lower (Kd.N_mono (ok' := fun k_ => some k_ ≠ (v263 : Value).ownBlock ∧ some k_ ≠ (v266 : Value).ownBlock ∧ some k_ ≠ (.slice Ao12 t235.length co12 : Value).ownBlock ∧ some k_ ≠ (.slice Ao14 t238.length co14 : Value).ownBlock ∧ some k_ ≠ (.slice Ao15 t241.length co15 : Value).ownBlock ∧ some k_ ≠ (.slice Ao18 t247.length co18 : Value).ownBlock ∧ some k_ ≠ (.slice Ao21 t250.length co21 : Value).ownBlock ∧ some k_ ≠ (.slice Ao22 t253.length co22 : Value).ownBlock ∧ k_ ≠ gb246 ∧ k_ ≠ gb258) ho0 (fun k_ hk_ => ⟨hk_.2.1, hk_.2.2, (Kd.fresh' (Kd.N_lt (by (with_reducible repeat (first | apply Kd.N_alloc | apply Kd.N_drewN | apply Kd.N_drew)); exact (Kd.N_mono (Kd.N_far (p := ⟨gb258, 2, none⟩) (Kd.N_far (p := ⟨gb258, 1, none⟩) (Kd.N_far (p := ⟨gb258, 0, none⟩) (Kd.N_mono HO237.out (fun k_ hk => (⟨hk, hk.2⟩ : _ ∧ k_ ≠ gb258))) (fun _ hk => hk.2) (.slice Ao18 t247.length co18)) (fun _ hk => hk.2) (.slice Ao21 t250.length co21)) (fun _ hk => hk.2) (.slice Ao22 t253.length co22)) (fun _ h_ => h_.1)))) k_ hk_.1), (Kd.fresh' (Kd.R_lt (by (with_reducible repeat (first | apply Kd.R_alloc | apply Kd.R_drewN | apply Kd.R_drew)); exact (Kd.R_mono (Kd.R_far (p := ⟨gb258, 2, none⟩) (Kd.R_far (p := ⟨gb258, 1, none⟩) (Kd.R_far (p := ⟨gb258, 0, none⟩) (Rt HO240.out BK258.out) (fun _ hk => hk.2) (.slice Ao18 t247.length co18)) (fun _ hk => hk.2) (.slice Ao21 t250.length co21)) (fun _ hk => hk.2) (.slice Ao22 t253.length co22)) (fun _ h_ => h_.1)))) k_ hk_.1), (Kd.fresh' (Kd.R_lt (by (with_reducible repeat (first | apply Kd.R_alloc | apply Kd.R_drewN | apply Kd.R_drew)); exact (Kd.R_mono (Kd.R_far (p := ⟨gb258, 2, none⟩) (Kd.R_far (p := ⟨gb258, 1, none⟩) (Kd.R_far (p := ⟨gb258, 0, none⟩) (Rt HO243.out BK258.out) (fun _ hk => hk.2) (.slice Ao18 t247.length co18)) (fun _ hk => hk.2) (.slice Ao21 t250.length co21)) (fun _ hk => hk.2) (.slice Ao22 t253.length co22)) (fun _ h_ => h_.1)))) k_ hk_.1), (Kd.fresh' (Kd.N_lt (by (with_reducible repeat (first | apply Kd.N_alloc | apply Kd.N_drewN | apply Kd.N_drew)); exact (Kd.N_mono (Kd.N_far (p := ⟨gb258, 2, none⟩) (Kd.N_far (p := ⟨gb258, 1, none⟩) (Kd.N_far (p := ⟨gb258, 0, none⟩) (Kd.N_mono HO249.out (fun k_ hk => (⟨hk, hk.2⟩ : _ ∧ k_ ≠ gb258))) (fun _ hk => hk.2) (.slice Ao18 t247.length co18)) (fun _ hk => hk.2) (.slice Ao21 t250.length co21)) (fun _ hk => hk.2) (.slice Ao22 t253.length co22)) (fun _ h_ => h_.1)))) k_ hk_.1), (Kd.fresh' (Kd.R_lt (by (with_reducible repeat (first | apply Kd.R_alloc | apply Kd.R_drewN | apply Kd.R_drew)); exact (Kd.R_mono (Kd.R_far (p := ⟨gb258, 2, none⟩) (Kd.R_far (p := ⟨gb258, 1, none⟩) (Kd.R_far (p := ⟨gb258, 0, none⟩) (Rt HO252.out BK258.out) (fun _ hk => hk.2) (.slice Ao18 t247.length co18)) (fun _ hk => hk.2) (.slice Ao21 t250.length co21)) (fun _ hk => hk.2) (.slice Ao22 t253.length co22)) (fun _ h_ => h_.1)))) k_ hk_.1), (Kd.fresh' (Kd.R_lt (by (with_reducible repeat (first | apply Kd.R_alloc | apply Kd.R_drewN | apply Kd.R_drew)); exact (Kd.R_mono (Kd.R_far (p := ⟨gb258, 2, none⟩) (Kd.R_far (p := ⟨gb258, 1, none⟩) (Kd.R_far (p := ⟨gb258, 0, none⟩) (Rt HO255.out BK258.out) (fun _ hk => hk.2) (.slice Ao18 t247.length co18)) (fun _ hk => hk.2) (.slice Ao21 t250.length co21)) (fun _ hk => hk.2) (.slice Ao22 t253.length co22)) (fun _ h_ => h_.1)))) k_ hk_.1), (Kd.freshB (g := gb246) (o := .cells #[.slice Ao12 t235.length co12, .slice Ao14 t238.length co14, .slice Ao15 t241.length co15] 26 (0, 0)) (by (with_reducible repeat (first | refine blk_drewN ?_ _ | refine blk_drew ?_ | refine blk_alloc ?_ _)); refine blk_far ?_ NB246_258.out _; (with_reducible repeat (first | refine blk_drewN ?_ _ | refine blk_drew ?_ | refine blk_alloc ?_ _)); refine blk_far ?_ NB246_258.out _; (with_reducible repeat (first | refine blk_drewN ?_ _ | refine blk_drew ?_ | refine blk_alloc ?_ _)); refine blk_far ?_ NB246_258.out _; (with_reducible repeat (first | refine blk_drewN ?_ _ | refine blk_drew ?_ | refine blk_alloc ?_ _)); exact BK246.out) k_ hk_.1), (Kd.freshB (g := gb258) (o := .cells #[.slice Ao18 t247.length co18, .slice Ao21 t250.length co21, .slice Ao22 t253.length co22] 26 (0, 0)) (by (with_reducible repeat (first | refine blk_drewN ?_ _ | refine blk_drew ?_ | refine blk_alloc ?_ _)); refine blk_put (cs := #[.slice Ao18 t247.length co18, .slice Ao21 t250.length co21, .slice none 0 0]) ?_ 2 _ rfl; (with_reducible repeat (first | refine blk_drewN ?_ _ | refine blk_drew ?_ | refine blk_alloc ?_ _)); refine blk_put (cs := #[.slice Ao18 t247.length co18, .slice none 0 0, .slice none 0 0]) ?_ 1 _ rfl; (with_reducible repeat (first | refine blk_drewN ?_ _ | refine blk_drew ?_ | refine blk_alloc ?_ _)); refine blk_put (cs := #[.slice none 0 0, .slice none 0 0, .slice none 0 0]) ?_ 0 _ rfl; (with_reducible repeat (first | refine blk_drewN ?_ _ | refine blk_drew ?_ | refine blk_alloc ?_ _)); exact BK258.out) k_ hk_.1)⟩)) (below_size (W2 HB.out GE246.out GE258.out))); have n7_ := Aside0.mk (Kd.R_lower (Kd.R_new' (Kd.R_new' (Kd.R_mono (ok' := fun k_ => True) ho1 (fun _ hk_ => trivial)) (Kd.R_lt (by (with_reducible repeat (first | apply Kd.R_alloc | apply Kd.R_drewN | apply Kd.R_drew)); exact (Kd.R_mono (Kd.R_far (p := ⟨gb258, 2, none⟩) (Kd.R_far (p := ⟨gb258, 1, none⟩) (Kd.R_far (p := ⟨gb258, 0, none⟩) (Rt HO240.out BK258.out) (fun _ hk => hk.2) (.slice Ao18 t247.length co18)) (fun _ hk => hk.2) (.slice Ao21 t250.length co21)) (fun _ hk => hk.2) (.slice Ao22 t253.length co22)) (fun _ h_ => h_.1))))) (Kd.R_lt (by (with_reducible repeat (first | apply Kd.R_alloc | apply Kd.R_drewN | apply Kd.R_drew)); exact (Kd.R_mono (Kd.R_far (p := ⟨gb258, 2, none⟩) (Kd.R_far (p := ⟨gb258, 1, none⟩) (Kd.R_far (p := ⟨gb258, 0, none⟩) (Rt HO252.out BK258.out) (fun _ hk => hk.2) (.slice Ao18 t247.length co18)) (fun _ hk => hk.2) (.slice Ao21 t250.length co21)) (fun _ hk => hk.2) (.slice Ao22 t253.length co22)) (fun _ h_ => h_.1))))) (below_size (W2 HB.out GE246.out GE258.out))); have n8_ := Aside0.mk (Kd.R_lower (Kd.R_new' (Kd.R_new' (Kd.R_mono (ok' := fun k_ => True) ho2 (fun _ hk_ => trivial)) (Kd.R_lt (by (with_reducible repeat (first | apply Kd.R_alloc | apply Kd.R_drewN | apply Kd.R_drew)); exact (Kd.R_mono (Kd.R_far (p := ⟨gb258, 2, none⟩) (Kd.R_far (p := ⟨gb258, 1, none⟩) (Kd.R_far (p := ⟨gb258, 0, none⟩) (Rt HO243.out BK258.out) (fun _ hk => hk.2) (.slice Ao18 t247.length co18)) (fun _ hk => hk.2) (.slice Ao21 t250.length co21)) (fun _ hk => hk.2) (.slice Ao22 t253.length co22)) (fun _ h_ => h_.1))))) (Kd.R_lt (by (with_reducible repeat (first | apply Kd.R_alloc | apply Kd.R_drewN | apply Kd.R_drew)); exact (Kd.R_mono (Kd.R_far (p := ⟨gb258, 2, none⟩) (Kd.R_far (p := ⟨gb258, 1, none⟩) (Kd.R_far (p := ⟨gb258, 0, none⟩) (Rt HO255.out BK258.out) (fun _ hk => hk.2) (.slice Ao18 t247.length co18)) (fun _ hk => hk.2) (.slice Ao21 t250.length co21)) (fun _ hk => hk.2) (.slice Ao22 t253.length co22)) (fun _ h_ => h_.1))))) (below_size (W2 HB.out GE246.out GE258.out))); have n9_ := Aside0.mk (blk_below (g := gb246) (o := .cells #[.slice Ao12 t235.length co12, .slice Ao14 t238.length co14, .slice Ao15 t241.length co15] 26 (0, 0)) (by (with_reducible repeat (first | refine blk_drewN ?_ _ | refine blk_drew ?_ | refine blk_alloc ?_ _)); refine blk_far ?_ NB246_258.out _; (with_reducible repeat (first | refine blk_drewN ?_ _ | refine blk_drew ?_ | refine blk_alloc ?_ _)); refine blk_far ?_ NB246_258.out _; (with_reducible repeat (first | refine blk_drewN ?_ _ | refine blk_drew ?_ | refine blk_alloc ?_ _)); refine blk_far ?_ NB246_258.out _; (with_reducible repeat (first | refine blk_drewN ?_ _ | refine blk_drew ?_ | refine blk_alloc ?_ _)); exact BK246.out) hb); have n10_ := Aside0.mk (blk_below (g := gb258) (o := .cells #[.slice Ao18 t247.length co18, .slice Ao21 t250.length co21, .slice Ao22 t253.length co22] 26 (0, 0)) (by (with_reducible repeat (first | refine blk_drewN ?_ _ | refine blk_drew ?_ | refine blk_alloc ?_ _)); refine blk_put (cs := #[.slice Ao18 t247.length co18, .slice Ao21 t250.length co21, .slice none 0 0]) ?_ 2 _ rfl; (with_reducible repeat (first | refine blk_drewN ?_ _ | refine blk_drew ?_ | refine blk_alloc ?_ _)); refine blk_put (cs := #[.slice Ao18 t247.length co18, .slice none 0 0, .slice none 0 0]) ?_ 1 _ rfl; (with_reducible repeat (first | refine blk_drewN ?_ _ | refine blk_drew ?_ | refine blk_alloc ?_ _)); refine blk_put (cs := #[.slice none 0 0, .slice none 0 0, .slice none 0 0]) ?_ 0 _ rfl; (with_reducible repeat (first | refine blk_drewN ?_ _ | refine blk_drew ?_ | refine blk_alloc ?_ _)); exact BK258.out) hb); have n11_ := Aside0.mk (below_step (W2 HB.out GE246.out GE258.out) hb); clear HO237; clear HO240; clear HO243; clear HO249; clear HO252; clear HO255; clear BK246; clear BK258; clear HB; have HO237 := n0_; have HO240 := n1_; have HO243 := n2_; have HO249 := n3_; have HO252 := n4_; have HO255 := n5_; have HO261 := n6_; have HO264 := n7_; have HO267 := n8_; have BK246 := n9_; have BK258 := n10_; have HB := n11_; clear n0_ n1_ n2_ n3_ n4_ n5_ n6_ n7_ n8_ n9_ n10_ n11_; (try clear hb); (try clear hb2); (try clear hk); (try clear hi); (try clear ho0); (try clear ho1); (try clear ho2)) | ((with_reducible refine gate_dst (N := 9) rfl ?_); (try (refine gate_guard (by rfl) ?_; dsimp only)); refine box_event ?hg (N := 9) ?hd (cs := #[.slice none 0 0, .slice none 0 0, .slice none 0 0]) (t := 26) ?hr ?_; (case hd => rfl); (case hg => rfl); (case hr => first | (go_simp; done) | (go_simp; rfl)); intro gb270 hg w24 hbox hb; have n0_ := Aside0.mk (Kd.N_below (Kd.N_elderB (Nq HO237.out) gb270 (Nat.le_of_eq hg.symm)) hb); have n1_ := Aside0.mk (Kd.R_below (Rq HO240.out) hb); have n2_ := Aside0.mk (Kd.R_below (Rq HO243.out) hb); have n3_ := Aside0.mk (Kd.N_below (Kd.N_elderB (Nq HO249.out) gb270 (Nat.le_of_eq hg.symm)) hb); have n4_ := Aside0.mk (Kd.R_below (Rq HO252.out) hb); have n5_ := Aside0.mk (Kd.R_below (Rq HO255.out) hb); have n6_ := Aside0.mk (Kd.N_below (Kd.N_elderB (Nq HO261.out) gb270 (Nat.le_of_eq hg.symm)) hb); have n7_ := Aside0.mk (Kd.R_below (Rq HO264.out) hb); have n8_ := Aside0.mk (Kd.R_below (Rq HO267.out) hb); have n9_ := Aside0.mk (blk_below (g := gb246) (Bq BK246.out) hb); have n10_ := Aside0.mk (blk_below (g := gb258) (Bq BK258.out) hb); have n11_ := Aside0.mk (below_step (W2 HB.out GE246.out GE258.out) hb); have n12_ := Aside0.mk (hbox); have n13_ := Aside0.mk ((by rw [hg]; exact (below_size (W2 HB.out GE246.out GE258.out)) : w.heap.size ≤ gb270)); have n14_ := Aside0.mk ((by rw [hg]; exact (below_size (W2 HB.out GE246.out GE258.out)) : w.heap.size ≤ gb270)); have n15_ := Aside0.mk ((by rw [hg]; exact Nat.ne_of_lt (blk_lt (g := gb246) (Bq BK246.out)) : gb246 ≠ gb270)); have n16_ := Aside0.mk ((by rw [hg]; exact Nat.ne_of_gt (blk_lt (g := gb246) (Bq BK246.out)) : gb270 ≠ gb246)); have n17_ := Aside0.mk ((by rw [hg]; exact Nat.ne_of_lt (blk_lt (g := gb258) (Bq BK258.out)) : gb258 ≠ gb270)); have n18_ := Aside0.mk ((by rw [hg]; exact Nat.ne_of_gt (blk_lt (g := gb258) (Bq BK258.out)) : gb270 ≠ gb258)); clear HO237; clear HO240; clear HO243; clear HO249; clear HO252; clear HO255; clear HO261; clear HO264; clear HO267; clear BK246; clear BK258; clear HB; have HO237 := n0_; have HO240 := n1_; have HO243 := n2_; have HO249 := n3_; have HO252 := n4_; have HO255 := n5_; have HO261 := n6_; have HO264 := n7_; have HO267 := n8_; have BK246 := n9_; have BK258 := n10_; have HB := n11_; have BK270 := n12_; have GW270 := n13_; have GE270 := n14_; have NB246_270 := n15_; have NB270_246 := n16_; have NB258_270 := n17_; have NB270_258 := n18_; clear n0_ n1_ n2_ n3_ n4_ n5_ n6_ n7_ n8_ n9_ n10_ n11_ n12_ n13_ n14_ n15_ n16_ n17_ n18_; clear hb hbox hg; obtain ⟨Ao25, co25, eo25⟩ := Kd.N_slice HO261.out; subst eo25; have hnb26 := NB270_246.out; have hnc26 := NB246_270.out; have hnb27 := NB270_258.out; have hnc27 := NB258_270.out; have hcz28_0 : w24.cell? ⟨gb270, 0, none⟩ = some (.slice none 0 0) := (blk_cell BK270.out 0).trans rfl; have hcz28_1 : w24.cell? ⟨gb270, 1, none⟩ = some (.slice none 0 0) := (blk_cell BK270.out 1).trans rfl; have hcz28_2 : w24.cell? ⟨gb270, 2, none⟩ = some (.slice none 0 0) := (blk_cell BK270.out 2).trans rfl; have hfz28_0 := blk_frozen BK270.out 0; have hfz28_1 := blk_frozen BK270.out 1; have hfz28_2 := blk_frozen BK270.out 2; obtain ⟨Ao29, co29, eo29⟩ := Kd.R_slice HO264.out; subst eo29; obtain ⟨Ao30, co30, eo30⟩ := Kd.R_slice HO267.out; subst eo30; have hcz31_0 : w24.cell? ⟨gb246, 0, none⟩ = some (.slice Ao12 t235.length co12) := (blk_cell BK246.out 0).trans rfl; have hcz31_1 : w24.cell? ⟨gb246, 1, none⟩ = some (.slice Ao14 t238.length co14) := (blk_cell BK246.out 1).trans rfl; have hcz31_2 : w24.cell? ⟨gb246, 2, none⟩ = some (.slice Ao15 t241.length co15) := (blk_cell BK246.out 2).trans rfl; have hfz31_0 := blk_frozen BK246.out 0; have hfz31_1 := blk_frozen BK246.out 1; have hfz31_2 := blk_frozen BK246.out 2; have hcz32_0 : w24.cell? ⟨gb258, 0, none⟩ = some (.slice Ao18 t247.length co18) := (blk_cell BK258.out 0).trans rfl; have hcz32_1 : w24.cell? ⟨gb258, 1, none⟩ = some (.slice Ao21 t250.length co21) := (blk_cell BK258.out 1).trans rfl; have hcz32_2 : w24.cell? ⟨gb258, 2, none⟩ = some (.slice Ao22 t253.length co22) := (blk_cell BK258.out 2).trans rfl; have hfz32_0 := blk_frozen BK258.out 0; have hfz32_1 := blk_frozen BK258.out 1; have hfz32_2 := blk_frozen BK258.out 2) | (go_at_call 16; (with_reducible refine (depotref00_SameRequest.calls k _ _ t235 _ _ t238 _ _ t241 _ _ t247 _ _ t250 _ _ t253 true _ ?side1 ?side2 ?side3 ?side4 ?side5 ?side6 ?side7 ?side8 ?side9 ?side10 ?side11 ?side12 A7.out).mono ?_); (case side1 => refine (Kd.N_reads' (e := 23) (base := w.heap.size) (ok := fun k_ => ((((((((((some k_ ≠ (.slice Ao14 t238.length co14 : Value).ownBlock ∧ some k_ ≠ (.slice Ao15 t241.length co15 : Value).ownBlock) ∧ k_ ≠ gb246) ∧ some k_ ≠ (.slice Ao18 t247.length co18 : Value).ownBlock) ∧ some k_ ≠ (.slice Ao21 t250.length co21 : Value).ownBlock) ∧ some k_ ≠ (.slice Ao22 t253.length co22 : Value).ownBlock) ∧ k_ ≠ gb258) ∧ some k_ ≠ (.slice Ao25 t259.length co25 : Value).ownBlock) ∧ some k_ ≠ (.slice Ao29 t262.length co29 : Value).ownBlock) ∧ some k_ ≠ (.slice Ao30 t265.length co30 : Value).ownBlock) ∧ k_ ≠ gb270)) (n := t235.length) (c := co12) ?_).2.2; exact (by (with_reducible repeat (first | apply Kd.N_alloc | apply Kd.N_drewN | apply Kd.N_drew)); exact (Kd.N_mono (Kd.N_far (p := ⟨gb270, 2, none⟩) (Kd.N_far (p := ⟨gb270, 1, none⟩) (Kd.N_far (p := ⟨gb270, 0, none⟩) (Kd.N_mono HO237.out (fun k_ hk => (⟨hk, hk.2⟩ : _ ∧ k_ ≠ gb270))) (fun _ hk => hk.2) (.slice Ao25 t259.length co25)) (fun _ hk => hk.2) (.slice Ao29 t262.length co29)) (fun _ hk => hk.2) (.slice Ao30 t265.length co30)) (fun _ h_ => h_.1)))); (case side2 => exact (Kd.N_reads' HO237.out).2.1); (case side3 => refine (Kd.R_reads' (e := 46) (base := w.heap.size) (ok := fun k_ => ((True ∧ some k_ ≠ (.slice Ao21 t250.length co21 : Value).ownBlock) ∧ some k_ ≠ (.slice Ao29 t262.length co29 : Value).ownBlock)) (n := t238.length) (c := co14) ?_).2.2; exact (by (with_reducible repeat (first | apply Kd.R_alloc | apply Kd.R_drewN | apply Kd.R_drew)); exact (Kd.R_mono (Kd.R_far (p := ⟨gb270, 2, none⟩) (Kd.R_far (p := ⟨gb270, 1, none⟩) (Kd.R_far (p := ⟨gb270, 0, none⟩) (Rt HO240.out BK270.out) (fun _ hk => hk.2) (.slice Ao25 t259.length co25)) (fun _ hk => hk.2) (.slice Ao29 t262.length co29)) (fun _ hk => hk.2) (.slice Ao30 t265.length co30)) (fun _ h_ => h_.1)))); (case side4 => exact (Kd.R_reads' HO240.out).2.1); (case side5 => refine (Kd.R_reads' (e := 48) (base := w.heap.size) (ok := fun k_ => ((True ∧ some k_ ≠ (.slice Ao22 t253.length co22 : Value).ownBlock) ∧ some k_ ≠ (.slice Ao30 t265.length co30 : Value).ownBlock)) (n := t241.length) (c := co15) ?_).2.2; exact (by (with_reducible repeat (first | apply Kd.R_alloc | apply Kd.R_drewN | apply Kd.R_drew)); exact (Kd.R_mono (Kd.R_far (p := ⟨gb270, 2, none⟩) (Kd.R_far (p := ⟨gb270, 1, none⟩) (Kd.R_far (p := ⟨gb270, 0, none⟩) (Rt HO243.out BK270.out) (fun _ hk => hk.2) (.slice Ao25 t259.length co25)) (fun _ hk => hk.2) (.slice Ao29 t262.length co29)) (fun _ hk => hk.2) (.slice Ao30 t265.length co30)) (fun _ h_ => h_.1)))); (case side6 => exact (Kd.R_reads' HO243.out).2.1); (case side7 => refine (Kd.N_reads' (e := 23) (base := w.heap.size) (ok := fun k_ => ((((((some k_ ≠ (.slice Ao21 t250.length co21 : Value).ownBlock ∧ (some k_ ≠ (.slice Ao22 t253.length co22 : Value).ownBlock ∧ (some k_ ≠ (.slice Ao12 t235.length co12 : Value).ownBlock ∧ (some k_ ≠ (.slice Ao14 t238.length co14 : Value).ownBlock ∧ (some k_ ≠ (.slice Ao15 t241.length co15 : Value).ownBlock ∧ k_ ≠ gb246))))) ∧ k_ ≠ gb258) ∧ some k_ ≠ (.slice Ao25 t259.length co25 : Value).ownBlock) ∧ some k_ ≠ (.slice Ao29 t262.length co29 : Value).ownBlock) ∧ some k_ ≠ (.slice Ao30 t265.length co30 : Value).ownBlock) ∧ k_ ≠ gb270)) (n := t247.length) (c := co18) ?_).2.2; exact (by (with_reducible repeat (first | apply Kd.N_alloc | apply Kd.N_drewN | apply Kd.N_drew)); exact (Kd.N_mono (Kd.N_far (p := ⟨gb270, 2, none⟩) (Kd.N_far (p := ⟨gb270, 1, none⟩) (Kd.N_far (p := ⟨gb270, 0, none⟩) (Kd.N_mono HO249.out (fun k_ hk => (⟨hk, hk.2⟩ : _ ∧ k_ ≠ gb270))) (fun _ hk => hk.2) (.slice Ao25 t259.length co25)) (fun _ hk => hk.2) (.slice Ao29 t262.length co29)) (fun _ hk => hk.2) (.slice Ao30 t265.length co30)) (fun _ h_ => h_.1)))); (case side8 => exact (Kd.N_reads' HO249.out).2.1); (case side9 => refine (Kd.R_reads' (e := 46) (base := w.heap.size) (ok := fun k_ => ((True ∧ some k_ ≠ (.slice Ao14 t238.length co14 : Value).ownBlock) ∧ some k_ ≠ (.slice Ao29 t262.length co29 : Value).ownBlock)) (n := t250.length) (c := co21) ?_).2.2; exact (by (with_reducible repeat (first | apply Kd.R_alloc | apply Kd.R_drewN | apply Kd.R_drew)); exact (Kd.R_mono (Kd.R_far (p := ⟨gb270, 2, none⟩) (Kd.R_far (p := ⟨gb270, 1, none⟩) (Kd.R_far (p := ⟨gb270, 0, none⟩) (Rt HO252.out BK270.out) (fun _ hk => hk.2) (.slice Ao25 t259.length co25)) (fun _ hk => hk.2) (.slice Ao29 t262.length co29)) (fun _ hk => hk.2) (.slice Ao30 t265.length co30)) (fun _ h_ => h_.1)))); (case side10 => exact (Kd.R_reads' HO252.out).2.1); (case side11 => refine (Kd.R_reads' (e := 48) (base := w.heap.size) (ok := fun k_ => ((True ∧ some k_ ≠ (.slice Ao15 t241.length co15 : Value).ownBlock) ∧ some k_ ≠ (.slice Ao30 t265.length co30 : Value).ownBlock)) (n := t253.length) (c := co22) ?_).2.2; exact (by (with_reducible repeat (first | apply Kd.R_alloc | apply Kd.R_drewN | apply Kd.R_drew)); exact (Kd.R_mono (Kd.R_far (p := ⟨gb270, 2, none⟩) (Kd.R_far (p := ⟨gb270, 1, none⟩) (Kd.R_far (p := ⟨gb270, 0, none⟩) (Rt HO255.out BK270.out) (fun _ hk => hk.2) (.slice Ao25 t259.length co25)) (fun _ hk => hk.2) (.slice Ao29 t262.length co29)) (fun _ hk => hk.2) (.slice Ao30 t265.length co30)) (fun _ h_ => h_.1)))); (case side12 => exact (Kd.R_reads' HO255.out).2.1); rintro e w33 ⟨rfl, hb⟩; have n0_ := Aside0.mk (Kd.N_below (by (with_reducible repeat (first | apply Kd.N_alloc | apply Kd.N_drewN | apply Kd.N_drew)); exact (Kd.N_mono (Kd.N_far (p := ⟨gb270, 2, none⟩) (Kd.N_far (p := ⟨gb270, 1, none⟩) (Kd.N_far (p := ⟨gb270, 0, none⟩) (Kd.N_mono HO237.out (fun k_ hk => (⟨hk, hk.2⟩ : _ ∧ k_ ≠ gb270))) (fun _ hk => hk.2) (.slice Ao25 t259.length co25)) (fun _ hk => hk.2) (.slice Ao29 t262.length co29)) (fun _ hk => hk.2) (.slice Ao30 t265.length co30)) (fun _ h_ => h_.1))) hb); have n1_ := Aside0.mk (Kd.R_below (by (with_reducible repeat (first | apply Kd.R_alloc | apply Kd.R_drewN | apply Kd.R_drew)); exact (Kd.R_mono (Kd.R_far (p := ⟨gb270, 2, none⟩) (Kd.R_far (p := ⟨gb270, 1, none⟩) (Kd.R_far (p := ⟨gb270, 0, none⟩) (Rt HO240.out BK270.out) (fun _ hk => hk.2) (.slice Ao25 t259.length co25)) (fun _ hk => hk.2) (.slice Ao29 t262.length co29)) (fun _ hk => hk.2) (.slice Ao30 t265.length co30)) (fun _ h_ => h_.1))) hb); have n2_ := Aside0.mk (Kd.R_below (by (with_reducible repeat (first | apply Kd.R_alloc | apply Kd.R_drewN | apply Kd.R_drew)); exact (Kd.R_mono (Kd.R_far (p := ⟨gb270, 2, none⟩) (Kd.R_far (p := ⟨gb270, 1, none⟩) (Kd.R_far (p := ⟨gb270, 0, none⟩) (Rt HO243.out BK270.out) (fun _ hk => hk.2) (.slice Ao25 t259.length co25)) (fun _ hk => hk.2) (.slice Ao29 t262.length co29)) (fun _ hk => hk.2) (.slice Ao30 t265.length co30)) (fun _ h_ => h_.1))) hb); have n3_ := Aside0.mk (Kd.N_below (by (with_reducible repeat (first | apply Kd.N_alloc | apply Kd.N_drewN | apply Kd.N_drew)); exact (Kd.N_mono (Kd.N_far (p := ⟨gb270, 2, none⟩) (Kd.N_far (p := ⟨gb270, 1, none⟩) (Kd.N_far (p := ⟨gb270, 0, none⟩) (Kd.N_mono HO249.out (fun k_ hk => (⟨hk, hk.2⟩ : _ ∧ k_ ≠ gb270))) (fun _ hk => hk.2) (.slice Ao25 t259.length co25)) (fun _ hk => hk.2) (.slice Ao29 t262.length co29)) (fun _ hk => hk.2) (.slice Ao30 t265.length co30)) (fun _ h_ => h_.1))) hb); have n4_ := Aside0.mk (Kd.R_below (by (with_reducible repeat (first | apply Kd.R_alloc | apply Kd.R_drewN | apply Kd.R_drew)); exact (Kd.R_mono (Kd.R_far (p := ⟨gb270, 2, none⟩) (Kd.R_far (p := ⟨gb270, 1, none⟩) (Kd.R_far (p := ⟨gb270, 0, none⟩) (Rt HO252.out BK270.out) (fun _ hk => hk.2) (.slice Ao25 t259.length co25)) (fun _ hk => hk.2) (.slice Ao29 t262.length co29)) (fun _ hk => hk.2) (.slice Ao30 t265.length co30)) (fun _ h_ => h_.1))) hb); have n5_ := Aside0.mk (Kd.R_below (by (with_reducible repeat (first | apply Kd.R_alloc | apply Kd.R_drewN | apply Kd.R_drew)); exact (Kd.R_mono (Kd.R_far (p := ⟨gb270, 2, none⟩) (Kd.R_far (p := ⟨gb270, 1, none⟩) (Kd.R_far (p := ⟨gb270, 0, none⟩) (Rt HO255.out BK270.out) (fun _ hk => hk.2) (.slice Ao25 t259.length co25)) (fun _ hk => hk.2) (.slice Ao29 t262.length co29)) (fun _ hk => hk.2) (.slice Ao30 t265.length co30)) (fun _ h_ => h_.1))) hb); have n6_ := Aside0.mk (Kd.N_below (by (with_reducible repeat (first | apply Kd.N_alloc | apply Kd.N_drewN | apply Kd.N_drew)); exact (Kd.N_mono (Kd.N_far (p := ⟨gb270, 2, none⟩) (Kd.N_far (p := ⟨gb270, 1, none⟩) (Kd.N_far (p := ⟨gb270, 0, none⟩) (Kd.N_mono HO261.out (fun k_ hk => (⟨hk, hk.2⟩ : _ ∧ k_ ≠ gb270))) (fun _ hk => hk.2) (.slice Ao25 t259.length co25)) (fun _ hk => hk.2) (.slice Ao29 t262.length co29)) (fun _ hk => hk.2) (.slice Ao30 t265.length co30)) (fun _ h_ => h_.1))) hb); have n7_ := Aside0.mk (Kd.R_below (by (with_reducible repeat (first | apply Kd.R_alloc | apply Kd.R_drewN | apply Kd.R_drew)); exact (Kd.R_mono (Kd.R_far (p := ⟨gb270, 2, none⟩) (Kd.R_far (p := ⟨gb270, 1, none⟩) (Kd.R_far (p := ⟨gb270, 0, none⟩) (Rt HO264.out BK270.out) (fun _ hk => hk.2) (.slice Ao25 t259.length co25)) (fun _ hk => hk.2) (.slice Ao29 t262.length co29)) (fun _ hk => hk.2) (.slice Ao30 t265.length co30)) (fun _ h_ => h_.1))) hb); have n8_ := Aside0.mk (Kd.R_below (by (with_reducible repeat (first | apply Kd.R_alloc | apply Kd.R_drewN | apply Kd.R_drew)); exact (Kd.R_mono (Kd.R_far (p := ⟨gb270, 2, none⟩) (Kd.R_far (p := ⟨gb270, 1, none⟩) (Kd.R_far (p := ⟨gb270, 0, none⟩) (Rt HO267.out BK270.out) (fun _ hk => hk.2) (.slice Ao25 t259.length co25)) (fun _ hk => hk.2) (.slice Ao29 t262.length co29)) (fun _ hk => hk.2) (.slice Ao30 t265.length co30)) (fun _ h_ => h_.1))) hb); have n9_ := Aside0.mk (blk_below (g := gb246) (o := .cells #[.slice Ao12 t235.length co12, .slice Ao14 t238.length co14, .slice Ao15 t241.length co15] 26 (0, 0)) (by (with_reducible repeat (first | refine blk_drewN ?_ _ | refine blk_drew ?_ | refine blk_alloc ?_ _)); refine blk_far ?_ NB246_270.out _; (with_reducible repeat (first | refine blk_drewN ?_ _ | refine blk_drew ?_ | refine blk_alloc ?_ _)); refine blk_far ?_ NB246_270.out _; (with_reducible repeat (first | refine blk_drewN ?_ _ | refine blk_drew ?_ | refine blk_alloc ?_ _)); refine blk_far ?_ NB246_270.out _; (with_reducible repeat (first | refine blk_drewN ?_ _ | refine blk_drew ?_ | refine blk_alloc ?_ _)); exact BK246.out) hb); have n10_ := Aside0.mk (blk_below (g := gb258) (o := .cells #[.slice Ao18 t247.length co18, .slice Ao21 t250.length co21, .slice Ao22 t253.length co22] 26 (0, 0)) (by (with_reducible repeat (first | refine blk_drewN ?_ _ | refine blk_drew ?_ | refine blk_alloc ?_ _)); refine blk_far ?_ NB258_270.out _; (with_reducible repeat (first | refine blk_drewN ?_ _ | refine blk_drew ?_ | refine blk_alloc ?_ _)); refine blk_far ?_ NB258_270.out _; (with_reducible repeat (first | refine blk_drewN ?_ _ | refine blk_drew ?_ | refine blk_alloc ?_ _)); refine blk_far ?_ NB258_270.out _; (with_reducible repeat (first | refine blk_drewN ?_ _ | refine blk_drew ?_ | refine blk_alloc ?_ _)); exact BK258.out) hb); have n11_ := Aside0.mk (blk_below (g := gb270) (o := .cells #[.slice Ao25 t259.length co25, .slice Ao29 t262.length co29, .slice Ao30 t265.length co30] 26 (0, 0)) (by (with_reducible repeat (first | refine blk_drewN ?_ _ | refine blk_drew ?_ | refine blk_alloc ?_ _)); refine blk_put (cs := #[.slice Ao25 t259.length co25, .slice Ao29 t262.length co29, .slice none 0 0]) ?_ 2 _ rfl; (with_reducible repeat (first | refine blk_drewN ?_ _ | refine blk_drew ?_ | refine blk_alloc ?_ _)); refine blk_put (cs := #[.slice Ao25 t259.length co25, .slice none 0 0, .slice none 0 0]) ?_ 1 _ rfl; (with_reducible repeat (first | refine blk_drewN ?_ _ | refine blk_drew ?_ | refine blk_alloc ?_ _)); refine blk_put (cs := #[.slice none 0 0, .slice none 0 0, .slice none 0 0]) ?_ 0 _ rfl; (with_reducible repeat (first | refine blk_drewN ?_ _ | refine blk_drew ?_ | refine blk_alloc ?_ _)); exact BK270.out) hb); have n12_ := Aside0.mk (below_step (W3 HB.out GE246.out GE258.out GE270.out) hb); clear HO237; clear HO240; clear HO243; clear HO249; clear HO252; clear HO255; clear HO261; clear HO264; clear HO267; clear BK246; clear BK258; clear BK270; clear HB; have HO237 := n0_; have HO240 := n1_; have HO243 := n2_; have HO249 := n3_; have HO252 := n4_; have HO255 := n5_; have HO261 := n6_; have HO264 := n7_; have HO267 := n8_; have BK246 := n9_; have BK258 := n10_; have BK270 := n11_; have HB := n12_; clear n0_ n1_ n2_ n3_ n4_ n5_ n6_ n7_ n8_ n9_ n10_ n11_ n12_; (try clear hb); (try clear hb2); (try clear hk); (try clear hi); have hcz34_0 : w33.cell? ⟨gb270, 0, none⟩ = some (.slice Ao25 t259.length co25) := (blk_cell BK270.out 0).trans rfl; have hcz34_1 : w33.cell? ⟨gb270, 1, none⟩ = some (.slice Ao29 t262.length co29) := (blk_cell BK270.out 1).trans rfl; have hcz34_2 : w33.cell? ⟨gb270, 2, none⟩ = some (.slice Ao30 t265.length co30) := (blk_cell BK270.out 2).trans rfl; have hfz34_0 := blk_frozen BK270.out 0; have hfz34_1 := blk_frozen BK270.out 1; have hfz34_2 := blk_frozen BK270.out 2))
     go_ret
     exact ⟨by first | rfl | (simp [errW_none, errW_some] <;> rfl) | (simp [*, errW_none, errW_some] <;> rfl) | (simp [errW_none, errW_some, Go.Proofs.YtmocooihkobdjaaDoor.listNe]; done), by repeat (first | (with_reducible first | exact HB.out | apply below_alloc | apply pw_below_drewN | apply below_drew1 | refine below_set ?_ GE246.out | refine below_set ?_ GE258.out | refine below_set ?_ GE270.out) | exact HB.out)⟩
    ·rw [if_neg c9] at H
     have c9b0 : (t268 == 0) = false := beq_eq_false_iff_ne.mpr c9
     have c9b1 : (t268 != 0) = true := bne_iff_ne.mpr c9
     exact absurd (Option.some.inj H) (by rw [hr]; decide)
   ·replace c8 := Bool.eq_false_iff.mpr c8
    subst c8
    have H1 : (some false) = some r := by rw [if_neg (show ¬ (false = true) by decide)] at H; exact H
    clear H
    have H := H1
    clear H1
    exact absurd (Option.some.inj H) (by rw [hr]; decide)
  ·rw [if_neg c6] at H
   have c6b0 : (t245 == t257) = false := beq_eq_false_iff_ne.mpr c6
   have c6b1 : (t245 != t257) = true := bne_iff_ne.mpr c6
   exact absurd (Option.some.inj H) (by rw [hr]; decide)
 ·rw [if_neg c5] at H
  have c5b0 : (t244 == t256) = false := beq_eq_false_iff_ne.mpr c5
  have c5b1 : (t244 != t256) = true := bne_iff_ne.mpr c5
  exact absurd (Option.some.inj H) (by rw [hr]; decide)
end Go.Proofs.YtmocooihkobdjaaDoor.Q
end
section
namespace Go.Proofs.YtmocooihkobdjaaDoor.Q
open Go.RowKit Go.Proofs.YtmocooihkobdjaaDoorW.PrintWords Go.Proofs.YtmocooihkobdjaaDoorW.PrintLast Go.Proofs.YtmocooihkobdjaaDoorW.PrintMore
attribute [local go_sem] max2_int min2_int max_two min_two max_three min_three max_four min_four
set_option linter.unusedVariables false
set_option linter.unusedSimpArgs false
end Go.Proofs.YtmocooihkobdjaaDoor.Q
end
section
set_option linter.unusedVariables false
set_option linter.unusedSimpArgs false
namespace Go.Proofs.YtmocooihkobdjaaDoor.Ver
open Go.RowKit Go.Proofs.YtmocooihkobdjaaDoor.Q Go.Proofs.YtmocooihkobdjaaDoorW.PrintWords Go.Proofs.YtmocooihkobdjaaDoorW.PrintLast
theorem wrap_id {x : Int} (h0 : -9223372036854775808 ≤ x) (h1 : x ≤ 9223372036854775807) : wrap64 x = x := by
  unfold wrap64
  omega
def lastN (s : ByteArray) (c : Int) : Nat → Int
  | 0 => -1
  | n + 1 => if bt s n = c then n else lastN s c n
theorem lastN_bd (s : ByteArray) (c : Int) : ∀ n, -1 ≤ lastN s c n ∧ lastN s c n + 1 ≤ n := by
  intro n
  induction n with
  | zero => exact ⟨by simp [lastN], by simp [lastN]⟩
  | succ n ih =>
    unfold lastN
    split <;> omega
theorem lastB_ev (s : ByteArray) (c : Int) (hs : s.size ≤ 140737488351232) : ∀ n : Nat, n ≤ s.size → Ev (fun k => bytealg_LastIndexByteString.l0 k s c (wrap64 ((n : Int) - 1))) (lastN s c n) := by
  intro n
  induction n with
  | zero =>
    intro _
    refine Ev.step (f := fun _ => some (-1)) (fun k => ?_) (Ev.now _)
    have e : wrap64 (((0 : Nat) : Int) - 1) = -1 := wrap_id (by omega) (by omega)
    simp only [bytealg_LastIndexByteString.l0]
    rw [e, if_neg (by omega)]
  | succ n ih =>
    intro hn
    have e : wrap64 (((n + 1 : Nat) : Int) - 1) = n := by rw [wrap_id (by omega) (by omega)]; omega
    by_cases hb : bt s n = c
    · refine Ev.step (f := fun _ => some (n : Int)) (fun k => ?_) ?_
      · simp only [bytealg_LastIndexByteString.l0]
        rw [e, if_pos (by omega), if_pos (by omega), if_pos (by omega), if_pos hb]
      · have : lastN s c (n + 1) = n := by unfold lastN; rw [if_pos hb]
        rw [this]; exact Ev.now _
    · refine Ev.step (f := fun k => bytealg_LastIndexByteString.l0 k s c (wrap64 ((n : Int) - 1))) (fun k => ?_) ?_
      · simp only [bytealg_LastIndexByteString.l0]
        rw [e, if_pos (by omega), if_pos (by omega), if_pos (by omega), if_neg hb]
      · have : lastN s c (n + 1) = lastN s c n := by conv => lhs; unfold lastN; rw [if_neg hb]
        rw [this]; exact ih (by omega)
theorem last_ev (s : ByteArray) (c : Int) (hs : s.size ≤ 140737488351232) : Ev (fun k => strings_LastIndexByte.f k s c) (lastN s c s.size) := by
  unfold strings_LastIndexByte.f bytealg_LastIndexByteString.f
  exact Ev.bind (lastB_ev s c hs s.size (Nat.le_refl _)) (Ev.now _)
theorem idx_bd (l : List UInt8) (c : UInt8) : -1 ≤ Lib.indexByte l c ∧ Lib.indexByte l c + 1 ≤ l.length := by
  refine ⟨Lib.indexByte_ge l c, ?_⟩
  induction l with
  | nil => simp [Lib.indexByte]
  | cons b l ih =>
    unfold Lib.indexByte
    split
    · simp only [List.length_cons]; omega
    · split
      · simp only [List.length_cons]; omega
      · simp only [List.length_cons]; omega
theorem bt_eq (s : ByteArray) (i : Nat) (h : i < s.size) : bt s i = ((s[i]'h).toNat : Int) := by
  have := bt_at s (i : Int) (by simpa using h)
  rw [← this]
  simp
theorem drop_cons (s : ByteArray) (i : Nat) (h : i < s.size) : s.data.toList.drop i = s[i]'h :: s.data.toList.drop (i + 1) := by
  have hl : i < s.data.toList.length := by simpa using h
  rw [List.drop_eq_getElem_cons hl]
  rfl
theorem cut_one (s : ByteArray) (c : UInt8) (hs : s.size ≤ 140737488351232) :
    strings_Cut.f s ⟨#[c]⟩ = some (if 0 ≤ Lib.indexByte s.data.toList c then (s.extract 0 (Lib.indexByte s.data.toList c).toNat, s.extract (Lib.indexByte s.data.toList c + 1).toNat s.size, true) else (s, ⟨#[]⟩, false)) := by
  have hb := idx_bd s.data.toList c
  have hl : (s.data.toList.length : Int) = s.size := by simp
  unfold strings_Cut.f stringslite_Cut.f stringslite_Index.f
  have h1 : (⟨#[c]⟩ : ByteArray).size = 1 := rfl
  rw [if_pos h1]
  have h0 : (⟨#[c]⟩ : ByteArray).data.getD 0 0 = c := rfl
  rw [h0]
  simp only [Option.bind_some]
  by_cases h : 0 ≤ Lib.indexByte s.data.toList c
  · have e : wrap64 (Lib.indexByte s.data.toList c + (((⟨#[c]⟩ : ByteArray).size : Nat) : Int)) = Lib.indexByte s.data.toList c + 1 := by
      rw [h1]
      exact wrap_id (by omega) (by omega)
    rw [if_pos (show Lib.indexByte s.data.toList c ≥ 0 from h), if_pos h, if_pos (by omega), e, if_pos (by omega), if_pos (by omega), if_pos h]
    rfl
  · rw [if_neg (show ¬ Lib.indexByte s.data.toList c ≥ 0 from h), if_neg h]
    rfl
def colonI (s : ByteArray) : Int := Lib.indexByte s.data.toList 58
def epochS (s : ByteArray) : ByteArray := epochR s (colonI s)
def behindS (s : ByteArray) : ByteArray := restR s (colonI s)
def minusI (s : ByteArray) : Int := lastN (behindS s) 45 (behindS s).size
def upS (s : ByteArray) : ByteArray := upR (behindS s) (minusI s)
def revS (s : ByteArray) : ByteArray := revR (behindS s) (minusI s)
def colonS (s : ByteArray) : Bool := decide (0 ≤ colonI s)
def minusS (s : ByteArray) : Bool := decide (0 ≤ minusI s)
def okS (s : ByteArray) : Bool := (fin (colonS s) (minusS s) (epochS s) (upS s) (revS s)).2.2.2
theorem behind_le (s : ByteArray) : (behindS s).size ≤ s.size := by
  unfold behindS restR
  split
  · simp
  · exact Nat.le_refl _
theorem colon_bd (s : ByteArray) : colonI s + 1 ≤ s.size := by
  have := (idx_bd s.data.toList 58).2
  have hl : (s.data.toList.length : Int) = s.size := by simp
  unfold colonI
  omega
theorem minus_bd (s : ByteArray) : minusI s + 1 ≤ (behindS s).size := (lastN_bd (behindS s) 45 _).2
theorem parted_ev (s : ByteArray) (hs : s.size ≤ 140737488351232) : Ev (fun k => version_parted.f k s) (epochS s, upS s, revS s, okS s) := by
  have hb := behind_le s
  have hc : strings_Cut.f s ⟨#[58]⟩ = some (if 0 ≤ colonI s then s.extract 0 (colonI s).toNat else s, if 0 ≤ colonI s then s.extract (colonI s + 1).toNat s.size else ⟨#[]⟩, colonS s) := by
    rw [cut_one s 58 hs]
    unfold colonS colonI
    split <;> simp_all
  have hrest : restOf s (if 0 ≤ colonI s then s.extract 0 (colonI s).toNat else s, if 0 ≤ colonI s then s.extract (colonI s + 1).toNat s.size else ⟨#[]⟩, colonS s) = behindS s := by
    unfold restOf behindS restR colonS
    simp only [decide_eq_true_eq]
    split <;> rfl
  have hep : epochOf (if 0 ≤ colonI s then s.extract 0 (colonI s).toNat else s, if 0 ≤ colonI s then s.extract (colonI s + 1).toNat s.size else ⟨#[]⟩, colonS s) = epochS s := by
    unfold epochOf epochS epochR colonS
    simp only [decide_eq_true_eq]
    split <;> rfl
  unfold version_parted.f
  rw [hc]
  simp only [Option.bind_some]
  rw [hrest, hep]
  refine Ev.bind (last_ev (behindS s) 45 (by omega)) ?_
  rw [if_pos (by omega)]
  have hm := minus_bd s
  have e : minusOf (colonS s) (epochS s) (behindS s) (lastN (behindS s) 45 (behindS s).size) = some (epochS s, upS s, revS s, okS s) := by
    change minusOf (colonS s) (epochS s) (behindS s) (minusI s) = _
    unfold minusOf okS upS revS minusS upR revR fin
    by_cases h : 0 ≤ minusI s
    · simp only [if_pos h, if_pos hm, decide_eq_true h]
    · simp only [if_neg h, decide_eq_false h]
      rfl
  rw [e]
  exact Ev.now _
end Go.Proofs.YtmocooihkobdjaaDoor.Ver
end
section
set_option linter.unusedVariables false
set_option linter.unusedSimpArgs false
namespace Go.Proofs.YtmocooihkobdjaaDoor.Model
open Go.RowKit Go.Proofs.YtmocooihkobdjaaDoor.Q Go.Proofs.YtmocooihkobdjaaDoorW.PrintWords Go.Proofs.YtmocooihkobdjaaDoorW.PrintLast Go.Proofs.YtmocooihkobdjaaDoor.Ver
abbrev B := List UInt8
theorem byte_all {P : UInt8 → Prop} (h : ∀ n : Fin 256, P (UInt8.ofNat n.val)) (c : UInt8) : P c := by
  have := h ⟨c.toNat, c.toNat_lt⟩
  simpa using this
def gapB (c : UInt8) : Bool := c == 32 || (c == 9 || c == 10)
def sgnB (c : UInt8) : Bool := c == 44 || (c == 124 || (c == 40 || c == 41))
def mrkB (c : UInt8) : Bool := c == 60 || (c == 61 || c == 62)
def wrdB (c : UInt8) : Bool := !gapB c && !sgnB c
def kd (c : UInt8) : Int := if gapB c = true then 1 else if sgnB c = true then 2 else if mrkB c = true then 3 else 0
def dg (l : B) : B := l.dropWhile gapB
def ofL (l : B) : ByteArray := ⟨l.toArray⟩
def at_ (s : ByteArray) (i : Nat) : B := s.data.toList.drop i
theorem toL_ofL (l : B) : (ofL l).data.toList = l := by simp [ofL]
theorem ofL_toL (s : ByteArray) : ofL s.data.toList = s := by
  obtain ⟨⟨x⟩⟩ := s
  rfl
theorem ofL_size (l : B) : (ofL l).size = l.length := by
  show (ofL l).data.size = _
  simp [ofL]
theorem ofL_list (l : B) : (ofL l).toList = l := by
  rw [ByteArray.toList_eq]
  rfl
theorem at_len (s : ByteArray) (i : Nat) : (at_ s i).length = s.size - i := by
  unfold at_
  rw [List.length_drop]
  rfl
theorem at_lt {s : ByteArray} {i : Nat} (h : i < s.size) : at_ s i = s[i]'h :: at_ s (i + 1) := drop_cons s i h
theorem at_end (s : ByteArray) : at_ s s.size = [] := List.eq_nil_of_length_eq_zero (by rw [at_len]; omega)
theorem at_zero (s : ByteArray) : at_ s 0 = s.data.toList := rfl
theorem at_nil {s : ByteArray} {i : Nat} (hi : i ≤ s.size) (h : at_ s i = []) : i = s.size := by
  have := at_len s i
  rw [h] at this
  simp at this
  omega
theorem at_cons {s : ByteArray} {i : Nat} {c : UInt8} {r : B} (hi : i ≤ s.size) (h : at_ s i = c :: r) : i < s.size ∧ bt s (i : Int) = (c.toNat : Int) ∧ at_ s (i + 1) = r := by
  have hl : i < s.size := by
    have := at_len s i
    rw [h] at this
    simp at this
    omega
  rw [at_lt hl] at h
  injection h with h1 h2
  exact ⟨hl, by rw [bt_eq s i hl, h1], h2⟩
theorem ext_at (s : ByteArray) (i e : Nat) : s.extract (i : Int).toNat (e : Int).toNat = ofL ((at_ s i).take (e - i)) := by
  rw [← ofL_toL (s.extract (i : Int).toNat (e : Int).toNat)]
  congr 1
  rw [ByteArray.data_extract, Array.toList_extract]
  simp [at_, List.extract]
theorem take_tw (p : UInt8 → Bool) (l : B) : l.take (l.takeWhile p).length = l.takeWhile p := by
  conv => lhs; rw [← List.takeWhile_append_dropWhile (p := p) (l := l)]
  rw [List.take_left']
  simp
theorem toNat_inj {c d : UInt8} : ((c.toNat : Int) = (d.toNat : Int)) ↔ c = d :=
  ⟨fun h => Lib.byte_eq_of_toNat h, fun h => by rw [h]⟩
def plB (c : UInt8) : Bool := (decide (97 ≤ c) && decide (c ≤ 122)) || (decide (48 ≤ c) && decide (c ≤ 57))
def namB (f : Bool) (c : UInt8) : Bool := plB c || (!f && (c == 43 || (c == 45 || c == 46)))
def nameL : Bool → B → Bool
  | _, [] => true
  | f, c :: l => namB f c && nameL false l
def nameM (l : B) : Bool := nameL true l && decide (1 < l.length)
theorem namB_int (f : Bool) : ∀ c : UInt8, namB f c = decide ((((c.toNat : Int) ≥ 97 ∧ (c.toNat : Int) ≤ 122) ∨ ((c.toNat : Int) ≥ 48 ∧ (c.toNat : Int) ≤ 57)) ∨ (f = false ∧ ((c.toNat : Int) = 43 ∨ (c.toNat : Int) = 45 ∨ (c.toNat : Int) = 46))) := by
  cases f
  · exact byte_all (by decide +kernel)
  · exact byte_all (by decide +kernel)
theorem name_ev (s : ByteArray) (hs : s.size ≤ 140737488351232) : Ev (fun k => relation_Name.f k s) (nameM s.data.toList) := by
  have key : ∀ (d i : Nat), i + d = s.size → Ev (fun k => relation_Name.l0 k s (i : Int)) (nameL (decide (i = 0)) (at_ s i) && decide ((s.size : Int) > 1)) := by
    intro d
    induction d with
    | zero =>
      intro i hi
      obtain rfl : i = s.size := by omega
      rw [at_end]
      refine Ev.step (f := fun _ => some (true && decide ((s.size : Int) > 1))) (fun k => ?_) (Ev.now _)
      simp only [relation_Name.l0]
      rw [if_neg (by omega)]
      rfl
    | succ d ih =>
      intro i hi
      have hl : i < s.size := by omega
      have ew : wrap64 ((i : Int) + 1) = ((i + 1 : Nat) : Int) := by rw [wrap_id (by omega) (by omega)]; omega
      have hp := ih (i + 1) (by omega)
      rw [show decide (i + 1 = 0) = false from decide_eq_false (by omega)] at hp
      have hb := namB_int (decide (i = 0)) (s[i]'hl)
      have ep : ∀ k, relation_Name.l0 (k + 2) s (i : Int) = if namB (decide (i = 0)) (s[i]'hl) = true then relation_Name.l0 k s ((i + 1 : Nat) : Int) else some false := by
        intro k
        simp only [relation_Name.l0, relation_Name.j1, ew, bt_eq s i hl, if_pos (show (i : Int) < s.size by omega), if_pos (show (0 : Int) ≤ i by omega)]
        rw [hb]
        repeat' split
        all_goals first | rfl | (exfalso; simp_all; done) | (exfalso; simp_all; omega)
      rw [at_lt hl, nameL]
      cases hg : namB (decide (i = 0)) (s[i]'hl) with
      | true =>
        rw [Bool.true_and]
        exact Ev.step (f := fun k => relation_Name.l0 (k + 1) s (i : Int)) (fun k => rfl) (Ev.step (f := fun k => relation_Name.l0 k s ((i + 1 : Nat) : Int)) (fun k => by rw [ep, if_pos hg]) hp)
      | false =>
        rw [Bool.false_and, Bool.false_and]
        exact Ev.step (f := fun k => relation_Name.l0 (k + 1) s (i : Int)) (fun k => rfl) (Ev.step (f := fun _ => some false) (fun k => by rw [ep, if_neg (by simp [hg])]) (Ev.now _))
  unfold relation_Name.f
  have h := key s.size 0 (by omega)
  have e : decide ((s.size : Int) > 1) = decide (1 < s.data.toList.length) := by
    have : s.data.toList.length = s.size := by simp
    rw [this]
    exact decide_eq_decide.2 (by omega)
  rw [e] at h
  exact h
theorem plegal_ev (s : ByteArray) (hs : s.size ≤ 140737488351232) : Ev (fun k => version_Legal.f k s) (okS s) := by
  unfold version_Legal.f
  exact Ev.bind (parted_ev s hs) (Ev.now _)
end Go.Proofs.YtmocooihkobdjaaDoor.Model
end
section
set_option linter.unusedVariables false
set_option linter.unusedSimpArgs false
namespace Go.Proofs.YtmocooihkobdjaaDoor.Model
open Go.RowKit Go.Proofs.YtmocooihkobdjaaDoor.Q Go.Proofs.YtmocooihkobdjaaDoorW.PrintWords Go.Proofs.YtmocooihkobdjaaDoorW.PrintLast Go.Proofs.YtmocooihkobdjaaDoor.Ver
def kindOf (c : Int) : Int := if c = 32 ∨ c = 9 ∨ c = 10 then 1 else if c = 44 ∨ c = 124 ∨ c = 40 ∨ c = 41 then 2 else if c = 60 ∨ c = 61 ∨ c = 62 then 3 else 0
theorem kindOf_byte : ∀ c : UInt8, kindOf (c.toNat : Int) = kd c := byte_all (by decide +kernel)
theorem kj1_ev (c : Int) (b : Bool) : Ev (fun k => relation_kind.j1 k c b) (if b = true then 2 else if c = 60 ∨ c = 61 ∨ c = 62 then 3 else 0) := by
  refine Ev.step (f := fun _ => some (if b = true then 2 else if c = 60 ∨ c = 61 ∨ c = 62 then 3 else 0)) (fun k => ?_) (Ev.now _)
  simp only [relation_kind.j1]
  repeat' split
  all_goals simp_all
theorem kj0_ev (c : Int) (b : Bool) : Ev (fun k => relation_kind.j0 k c b) (if b = true then 1 else if c = 44 ∨ c = 124 ∨ c = 40 ∨ c = 41 then 2 else if c = 60 ∨ c = 61 ∨ c = 62 then 3 else 0) := by
  refine Ev.step (f := fun k => if b = true then some 1 else relation_kind.j1 k c (decide (c = 44 ∨ c = 124 ∨ c = 40 ∨ c = 41))) (fun k => ?_) ?_
  · simp only [relation_kind.j0]
    by_cases h1 : c = 44
    · subst h1; simp
    by_cases h2 : c = 124
    · subst h2; simp
    by_cases h3 : c = 40
    · subst h3; simp
    · by_cases h4 : c = 41
      · subst h4; simp
      · have h5 : (c == 41) = false := beq_eq_false_iff_ne.2 h4
        simp [h1, h2, h3, h4, h5]
  · cases b with
    | true => simpa using Ev.now _
    | false =>
      have := kj1_ev c (decide (c = 44 ∨ c = 124 ∨ c = 40 ∨ c = 41))
      simpa using this
theorem kind_int (c : Int) : Ev (fun k => relation_kind.f k c) (kindOf c) := by
  have h := kj0_ev c (decide (c = 32 ∨ c = 9 ∨ c = 10))
  have e : (fun k => relation_kind.f k c) = fun k => relation_kind.j0 k c (decide (c = 32 ∨ c = 9 ∨ c = 10)) := by
    funext k
    unfold relation_kind.f
    by_cases h1 : c = 32
    · subst h1; simp
    by_cases h2 : c = 9
    · subst h2; simp
    · by_cases h4 : c = 10
      · subst h4; simp
      · have h5 : (c == 10) = false := beq_eq_false_iff_ne.2 h4
        simp [h1, h2, h4, h5]
  rw [e]
  simpa [kindOf] using h
theorem kind_ev (c : UInt8) : Ev (fun k => relation_kind.f k (c.toNat : Int)) (kd c) := by
  rw [← kindOf_byte]
  exact kind_int _
theorem kd_gap {c : UInt8} : kd c = 1 ↔ gapB c = true := by
  unfold kd
  repeat' split
  all_goals simp_all
theorem kd_stop {c : UInt8} : (kd c = 1 ∨ kd c = 2) ↔ wrdB c = false := by
  unfold kd wrdB
  repeat' split
  all_goals simp_all
theorem kd_mark : ∀ c : UInt8, kd c = 3 ↔ mrkB c = true := byte_all (by decide +kernel)
theorem gaps_ev (s : ByteArray) (hs : s.size ≤ 140737488351232) : ∀ (d i : Nat), i + d = s.size → ∃ e : Nat, i ≤ e ∧ e ≤ s.size ∧ at_ s e = dg (at_ s i) ∧ Ev (fun k => relation_reader_gaps.f k s (i : Int)) (s, (e : Int)) := by
  intro d
  unfold relation_reader_gaps.f
  induction d with
  | zero =>
    intro i hi
    refine ⟨i, Nat.le_refl _, by omega, ?_, ?_⟩
    · obtain rfl : i = s.size := by omega
      rw [at_end]; rfl
    · refine Ev.step (f := fun _ => some (s, (i : Int))) (fun k => ?_) (Ev.now _)
      simp only [relation_reader_gaps.l0]
      rw [if_neg (by omega)]
  | succ d ih =>
    intro i hi
    have hl : i < s.size := by omega
    have ew : wrap64 ((i : Int) + 1) = ((i + 1 : Nat) : Int) := by rw [wrap_id (by omega) (by omega)]; omega
    have hstep : ∀ k, relation_reader_gaps.l0 (k + 1) s (i : Int) = (relation_kind.f k ((s[i]'hl).toNat : Int)).bind fun t => if t = 1 then relation_reader_gaps.l0 k s ((i + 1 : Nat) : Int) else some (s, (i : Int)) := by
      intro k
      simp only [relation_reader_gaps.l0]
      rw [if_pos (by omega), if_pos (by omega), ew, bt_eq s i hl]
    rw [at_lt hl]
    by_cases hk : gapB (s[i]'hl) = true
    · obtain ⟨e, h1, h2, h3, h4⟩ := ih (i + 1) (by omega)
      refine ⟨e, by omega, h2, ?_, ?_⟩
      · rw [h3, dg, dg, List.dropWhile_cons, if_pos hk]
      · refine Ev.step hstep ?_
        refine Ev.bind (kind_ev _) ?_
        simp only [if_pos (kd_gap.2 hk)]
        exact h4
    · refine ⟨i, Nat.le_refl _, by omega, ?_, ?_⟩
      · rw [at_lt hl, dg, List.dropWhile_cons, if_neg hk]
      · refine Ev.step hstep ?_
        refine Ev.bind (kind_ev _) ?_
        simp only [if_neg (fun q => hk (kd_gap.1 q))]
        exact Ev.now _
theorem runstop (s : ByteArray) (st i : Nat) (hs : s.size ≤ 140737488351232) (hi : i < s.size) (hst : st ≤ i) (hk : wrdB (s[i]'hi) = false) :
    Ev (fun k => relation_reader_run.l0 k false (i : Int) s (st : Int)) (s.extract (st : Int).toNat (i : Int).toNat, s, (st : Int)) := by
  refine Ev.step (f := fun k => (relation_kind.f k ((s[i]'hi).toNat : Int)).bind fun t => if t = 1 then some (s.extract (st : Int).toNat (i : Int).toNat, s, (st : Int)) else if t = 2 then some (s.extract (st : Int).toNat (i : Int).toNat, s, (st : Int)) else relation_reader_run.l0 k false (wrap64 ((i : Int) + 1)) s (st : Int)) (fun k => ?_) ?_
  · simp only [relation_reader_run.l0, bt_eq s i hi, if_pos (show (i : Int) < s.size by omega), if_pos (show (0 : Int) ≤ i by omega), if_pos (show (0 : Int) ≤ st by omega), if_pos (show (st : Int) ≤ i by omega), if_pos (show (i : Int) ≤ s.size by omega), Bool.false_eq_true, if_false]
  · refine Ev.bind (kind_ev _) ?_
    rcases kd_stop.2 hk with hk | hk
    · simp only [if_pos hk]; exact Ev.now _
    · simp only [if_neg (show ¬ kd (s[i]'hi) = 1 by omega), if_pos hk]; exact Ev.now _
theorem runstep (s : ByteArray) (st i : Nat) (hs : s.size ≤ 140737488351232) (hi : i < s.size) (hst : st ≤ i) (hk : ¬ wrdB (s[i]'hi) = false) (v : ByteArray × ByteArray × Int)
    (h : Ev (fun k => relation_reader_run.l0 k false ((i + 1 : Nat) : Int) s (st : Int)) v) : Ev (fun k => relation_reader_run.l0 k false (i : Int) s (st : Int)) v := by
  have ew : wrap64 ((i : Int) + 1) = ((i + 1 : Nat) : Int) := by rw [wrap_id (by omega) (by omega)]; omega
  refine Ev.step (f := fun k => (relation_kind.f k ((s[i]'hi).toNat : Int)).bind fun t => if t = 1 then some (s.extract (st : Int).toNat (i : Int).toNat, s, (st : Int)) else if t = 2 then some (s.extract (st : Int).toNat (i : Int).toNat, s, (st : Int)) else relation_reader_run.l0 k false ((i + 1 : Nat) : Int) s (st : Int)) (fun k => ?_) ?_
  · simp only [relation_reader_run.l0, bt_eq s i hi, if_pos (show (i : Int) < s.size by omega), if_pos (show (0 : Int) ≤ i by omega), if_pos (show (0 : Int) ≤ st by omega), if_pos (show (st : Int) ≤ i by omega), if_pos (show (i : Int) ≤ s.size by omega), Bool.false_eq_true, if_false, ew]
  · refine Ev.bind (kind_ev _) ?_
    simp only [if_neg (fun q => hk (kd_stop.1 (.inl q))), if_neg (fun q => hk (kd_stop.1 (.inr q)))]
    exact h
theorem signstop (s : ByteArray) (st i : Nat) (hs : s.size ≤ 140737488351232) (hi : i < s.size) (hst : st ≤ i) (hk : ¬ mrkB (s[i]'hi) = true) :
    Ev (fun k => relation_reader_run.l0 k true (i : Int) s (st : Int)) (s.extract (st : Int).toNat (i : Int).toNat, s, (st : Int)) := by
  refine Ev.step (f := fun k => (relation_kind.f k ((s[i]'hi).toNat : Int)).bind fun t => if t = 3 then (if t = 1 then some (s.extract (st : Int).toNat (i : Int).toNat, s, (st : Int)) else if t = 2 then some (s.extract (st : Int).toNat (i : Int).toNat, s, (st : Int)) else relation_reader_run.l0 k true (wrap64 ((i : Int) + 1)) s (st : Int)) else some (s.extract (st : Int).toNat (i : Int).toNat, s, (st : Int))) (fun k => ?_) ?_
  · simp only [relation_reader_run.l0, bt_eq s i hi, if_pos (show (i : Int) < s.size by omega), if_pos (show (0 : Int) ≤ i by omega), if_pos (show (0 : Int) ≤ st by omega), if_pos (show (st : Int) ≤ i by omega), if_pos (show (i : Int) ≤ s.size by omega), if_true]
  · refine Ev.bind (kind_ev _) ?_
    simp only [if_neg (fun q => hk ((kd_mark _).1 q))]; exact Ev.now _
theorem signstep (s : ByteArray) (st i : Nat) (hs : s.size ≤ 140737488351232) (hi : i < s.size) (hst : st ≤ i) (hk : mrkB (s[i]'hi) = true) (v : ByteArray × ByteArray × Int)
    (h : Ev (fun k => relation_reader_run.l0 k true ((i + 1 : Nat) : Int) s (st : Int)) v) : Ev (fun k => relation_reader_run.l0 k true (i : Int) s (st : Int)) v := by
  have ew : wrap64 ((i : Int) + 1) = ((i + 1 : Nat) : Int) := by rw [wrap_id (by omega) (by omega)]; omega
  have hk := (kd_mark _).2 hk
  refine Ev.step (f := fun k => (relation_kind.f k ((s[i]'hi).toNat : Int)).bind fun t => if t = 3 then (if t = 1 then some (s.extract (st : Int).toNat (i : Int).toNat, s, (st : Int)) else if t = 2 then some (s.extract (st : Int).toNat (i : Int).toNat, s, (st : Int)) else relation_reader_run.l0 k true ((i + 1 : Nat) : Int) s (st : Int)) else some (s.extract (st : Int).toNat (i : Int).toNat, s, (st : Int))) (fun k => ?_) ?_
  · simp only [relation_reader_run.l0, bt_eq s i hi, if_pos (show (i : Int) < s.size by omega), if_pos (show (0 : Int) ≤ i by omega), if_pos (show (0 : Int) ≤ st by omega), if_pos (show (st : Int) ≤ i by omega), if_pos (show (i : Int) ≤ s.size by omega), if_true, ew]
  · refine Ev.bind (kind_ev _) ?_
    simp only [if_pos hk, if_neg (show ¬ kd (s[i]'hi) = 1 by omega), if_neg (show ¬ kd (s[i]'hi) = 2 by omega)]
    exact h
theorem word_ev (s : ByteArray) (st : Nat) (hs : s.size ≤ 140737488351232) : ∀ (d i : Nat), i + d = s.size → st ≤ i → ∃ e : Nat, i ≤ e ∧ e ≤ s.size ∧ at_ s e = (at_ s i).dropWhile wrdB ∧ e - i = ((at_ s i).takeWhile wrdB).length ∧
    Ev (fun k => relation_reader_run.l0 k false (i : Int) s (st : Int)) (s.extract (st : Int).toNat (e : Int).toNat, s, (st : Int)) := by
  intro d
  induction d with
  | zero =>
    intro i hi hst
    obtain rfl : i = s.size := by omega
    refine ⟨s.size, Nat.le_refl _, by omega, by rw [at_end]; rfl, by rw [at_end]; simp, ?_⟩
    refine Ev.step (f := fun _ => some (s.extract (st : Int).toNat (s.size : Int).toNat, s, (st : Int))) (fun k => ?_) (Ev.now _)
    simp only [relation_reader_run.l0]
    rw [if_neg (by omega), if_pos (by omega), if_pos (by omega), if_pos (by omega)]
  | succ d ih =>
    intro i hi hst
    have hl : i < s.size := by omega
    rw [at_lt hl]
    by_cases hk : wrdB (s[i]'hl) = false
    · refine ⟨i, Nat.le_refl _, by omega, ?_, ?_, runstop s st i hs hl hst hk⟩
      · rw [at_lt hl, List.dropWhile_cons, if_neg (by simp [hk])]
      · rw [List.takeWhile_cons, if_neg (by simp [hk])]; simp
    · have hk' : wrdB (s[i]'hl) = true := by simpa using hk
      obtain ⟨e, h1, h2, h3, h4, h5⟩ := ih (i + 1) (by omega) (by omega)
      refine ⟨e, by omega, h2, ?_, ?_, runstep s st i hs hl hst hk _ h5⟩
      · rw [h3, List.dropWhile_cons, if_pos hk']
      · rw [List.takeWhile_cons, if_pos hk', List.length_cons]; omega
theorem sign_ev (s : ByteArray) (st : Nat) (hs : s.size ≤ 140737488351232) : ∀ (d i : Nat), i + d = s.size → st ≤ i → ∃ e : Nat, i ≤ e ∧ e ≤ s.size ∧ at_ s e = (at_ s i).dropWhile mrkB ∧ e - i = ((at_ s i).takeWhile mrkB).length ∧
    Ev (fun k => relation_reader_run.l0 k true (i : Int) s (st : Int)) (s.extract (st : Int).toNat (e : Int).toNat, s, (st : Int)) := by
  intro d
  induction d with
  | zero =>
    intro i hi hst
    obtain rfl : i = s.size := by omega
    refine ⟨s.size, Nat.le_refl _, by omega, by rw [at_end]; rfl, by rw [at_end]; simp, ?_⟩
    refine Ev.step (f := fun _ => some (s.extract (st : Int).toNat (s.size : Int).toNat, s, (st : Int))) (fun k => ?_) (Ev.now _)
    simp only [relation_reader_run.l0]
    rw [if_neg (by omega), if_pos (by omega), if_pos (by omega), if_pos (by omega)]
  | succ d ih =>
    intro i hi hst
    have hl : i < s.size := by omega
    rw [at_lt hl]
    by_cases hk : mrkB (s[i]'hl) = true
    · obtain ⟨e, h1, h2, h3, h4, h5⟩ := ih (i + 1) (by omega) (by omega)
      refine ⟨e, by omega, h2, ?_, ?_, signstep s st i hs hl hst hk _ h5⟩
      · rw [h3, List.dropWhile_cons, if_pos hk]
      · rw [List.takeWhile_cons, if_pos hk, List.length_cons]; omega
    · refine ⟨i, Nat.le_refl _, by omega, ?_, ?_, signstop s st i hs hl hst hk⟩
      · rw [at_lt hl, List.dropWhile_cons, if_neg hk]
      · rw [List.takeWhile_cons, if_neg hk]; simp
def closeM (x : S46) (r : B) : (Int ⊕ S46) × B := match r with
  | [] => (.inl 220, [])
  | c :: r => if c = 41 then (.inr x, dg r) else (.inl 220, c :: r)
def versM (nm : B) (op : Int) (r4 : B) : (Int ⊕ S46) × B :=
  if r4.takeWhile wrdB = [] then (.inl 220, r4) else if okS (ofL (r4.takeWhile wrdB)) = false then (.inl 200, r4) else
  closeM ⟨ofL nm, op, ofL (r4.takeWhile wrdB)⟩ (dg (r4.dropWhile wrdB))
def operM (nm : B) (r3 : B) : (Int ⊕ S46) × B :=
  if opOf (ofL (r3.takeWhile mrkB)) = 0 then (.inl 220, r3) else versM nm (opOf (ofL (r3.takeWhile mrkB))) (dg (r3.dropWhile mrkB))
def openM (nm : B) (r1 : B) : (Int ⊕ S46) × B := match r1 with
  | [] => (.inr ⟨ofL nm, 0, ⟨#[]⟩⟩, [])
  | c :: r => if c = 40 then operM nm (dg r) else (.inr ⟨ofL nm, 0, ⟨#[]⟩⟩, c :: r)
def relM (l : B) : (Int ⊕ S46) × B :=
  if l.takeWhile wrdB = [] then (.inl 220, l) else if nameM (l.takeWhile wrdB) = false then (.inl 230, l) else openM (l.takeWhile wrdB) (dg (l.dropWhile wrdB))
def relOut (s : ByteArray) (e : Int) : Int ⊕ S46 → ByteArray × Int × ByteArray × Int × ByteArray × Int
  | .inl er => noRel er s e
  | .inr x => (x.f0, x.f1, x.f2, 0, s, e)
theorem pass_ev (s : ByteArray) (hs : s.size ≤ 140737488351232) (i n : Nat) (h : i + n ≤ s.size) : ∃ e : Nat, i + n ≤ e ∧ e ≤ s.size ∧ at_ s e = dg (at_ s (i + n)) ∧ Ev (fun k => relation_reader_pass.f k s (i : Int) (n : Int)) (s, (e : Int)) := by
  obtain ⟨e, h1, h2, h3, h4⟩ := gaps_ev s hs (s.size - (i + n)) (i + n) (by omega)
  refine ⟨e, h1, h2, h3, ?_⟩
  unfold relation_reader_pass.f
  have ew : wrap64 ((i : Int) + (n : Int)) = ((i + n : Nat) : Int) := by rw [wrap_id (by omega) (by omega)]; omega
  simp only [ew]
  exact Ev.bind h4 (Ev.now _)
theorem takes_yes (s : ByteArray) (hs : s.size ≤ 140737488351232) (i : Nat) (c : Int) (h : i < s.size) (hc : bt s i = c) : ∃ e : Nat, i < e ∧ e ≤ s.size ∧ at_ s e = dg (at_ s (i + 1)) ∧ Ev (fun k => relation_reader_takes.f k s (i : Int) c) (true, s, (e : Int)) := by
  obtain ⟨e, h1, h2, h3, h4⟩ := pass_ev s hs i 1 (by omega)
  refine ⟨e, by omega, h2, h3, ?_⟩
  unfold relation_reader_takes.f
  simp only [if_neg (show ¬ (i : Int) = s.size by omega), if_pos (show (0 : Int) ≤ i by omega), if_pos (show (i : Int) < s.size by omega), if_pos hc]
  exact Ev.bind h4 (Ev.now _)
theorem takes_no (s : ByteArray) (i : Nat) (c : Int) (hi : i ≤ s.size) (h : i = s.size ∨ ¬ bt s i = c) : Ev (fun k => relation_reader_takes.f k s (i : Int) c) (false, s, (i : Int)) := by
  unfold relation_reader_takes.f
  by_cases he : i = s.size
  · simp only [if_pos (show (i : Int) = s.size by omega)]
    exact Ev.now _
  · have hb : ¬ bt s i = c := h.resolve_left he
    simp only [if_neg (show ¬ (i : Int) = s.size by omega), if_pos (show (0 : Int) ≤ i by omega), if_pos (show (i : Int) < s.size by omega), if_neg hb]
    exact Ev.now _
theorem close_ev (s : ByteArray) (hs : s.size ≤ 140737488351232) (i : Nat) (hi : i ≤ s.size) (x : S46) : ∃ e : Nat, i ≤ e ∧ e ≤ s.size ∧ at_ s e = (closeM x (at_ s i)).2 ∧
    Ev (fun k => (relation_reader_takes.f k s (i : Int) 41).bind fun x8 => if x8.1 = false then some (noRel 220 x8.2.1 x8.2.2) else some (x.f0, x.f1, x.f2, (0 : Int), x8.2.1, x8.2.2)) (relOut s (e : Int) (closeM x (at_ s i)).1) := by
  cases hl : at_ s i with
  | nil =>
    refine ⟨i, Nat.le_refl _, hi, hl, ?_⟩
    refine Ev.bind (takes_no s i 41 hi (.inl (at_nil hi hl))) ?_
    simp only [if_true, closeM, relOut]
    exact Ev.now _
  | cons c r =>
    obtain ⟨h1, h2, h3⟩ := at_cons hi hl
    by_cases hc : c = 41
    · subst hc
      obtain ⟨e, e1, e2, e3, e4⟩ := takes_yes s hs i 41 h1 h2
      refine ⟨e, by omega, e2, by rw [e3, h3]; simp [closeM], ?_⟩
      refine Ev.bind e4 ?_
      simp only [Bool.true_eq_false, if_false, closeM, if_true, relOut]
      exact Ev.now _
    · refine ⟨i, Nat.le_refl _, hi, by rw [hl]; simp [closeM, hc], ?_⟩
      refine Ev.bind (takes_no s i 41 hi (.inr ?_)) ?_
      · rw [h2]
        exact fun q => hc (toNat_inj.1 (show (c.toNat : Int) = ((41 : UInt8).toNat : Int) from q))
      · simp only [if_true, closeM, if_neg hc, relOut]
        exact Ev.now _
theorem vers_ev (s : ByteArray) (hs : s.size ≤ 140737488351232) (i : Nat) (hi : i ≤ s.size) (nm : B) (op : Int) : ∃ e : Nat, i ≤ e ∧ e ≤ s.size ∧ at_ s e = (versM nm op (at_ s i)).2 ∧
    Ev (fun k => (relation_reader_run.f k s (i : Int) false).bind fun x6 => if x6.1.toList = [] then some (noRel 220 x6.2.1 x6.2.2) else
      (version_Legal.f k x6.1).bind fun lg => if lg = false then some (noRel 200 x6.2.1 x6.2.2) else
      (relation_reader_pass.f k x6.2.1 x6.2.2 x6.1.size).bind fun x7 => (relation_reader_takes.f k x7.1 x7.2 41).bind fun x8 => if x8.1 = false then some (noRel 220 x8.2.1 x8.2.2) else some (ofL nm, op, x6.1, (0 : Int), x8.2.1, x8.2.2)) (relOut s (e : Int) (versM nm op (at_ s i)).1) := by
  obtain ⟨x, hx1, hx2, hx3, hx4, hx5⟩ := word_ev s i hs (s.size - i) i (by omega) (Nat.le_refl _)
  have hv : s.extract (i : Int).toNat (x : Int).toNat = ofL ((at_ s i).takeWhile wrdB) := by rw [ext_at, hx4, take_tw]
  rw [hv] at hx5
  have hr : Ev (fun k => relation_reader_run.f k s (i : Int) false) (ofL ((at_ s i).takeWhile wrdB), s, (i : Int)) := hx5
  by_cases e1 : (at_ s i).takeWhile wrdB = []
  · refine ⟨i, Nat.le_refl _, hi, by simp only [versM, if_pos e1], ?_⟩
    refine Ev.bind hr ?_
    simp only [ofL_list, if_pos e1, versM, relOut]
    exact Ev.now _
  have hL := plegal_ev (ofL ((at_ s i).takeWhile wrdB)) (by rw [ofL_size]; omega)
  by_cases e2 : okS (ofL ((at_ s i).takeWhile wrdB)) = false
  · refine ⟨i, Nat.le_refl _, hi, by simp only [versM, if_neg e1, if_pos e2], ?_⟩
    refine Ev.bind hr ?_
    simp only [ofL_list, if_neg e1]
    refine Ev.bind hL ?_
    simp only [if_pos e2, versM, if_neg e1, relOut]
    exact Ev.now _
  obtain ⟨p, hp1, hp2, hp3, hp4⟩ := pass_ev s hs i (x - i) (by omega)
  rw [show i + (x - i) = x by omega, hx3] at hp3
  obtain ⟨e, c1, c2, c3, c4⟩ := close_ev s hs p hp2 ⟨ofL nm, op, ofL ((at_ s i).takeWhile wrdB)⟩
  rw [hp3] at c3 c4
  refine ⟨e, by omega, c2, by rw [c3]; simp only [versM, if_neg e1, if_neg e2], ?_⟩
  refine Ev.bind hr ?_
  simp only [ofL_list, if_neg e1]
  refine Ev.bind hL ?_
  simp only [if_neg e2, versM, if_neg e1, ofL_size, ← hx4]
  exact Ev.bind hp4 c4
theorem oper_ev (s : ByteArray) (hs : s.size ≤ 140737488351232) (i : Nat) (hi : i ≤ s.size) (nm : B) : ∃ e : Nat, i ≤ e ∧ e ≤ s.size ∧ at_ s e = (operM nm (at_ s i)).2 ∧
    Ev (fun k => (relation_reader_run.f k s (i : Int) true).bind fun x4 => if opOf x4.1 = 0 then some (noRel 220 x4.2.1 x4.2.2) else
      (relation_reader_pass.f k x4.2.1 x4.2.2 x4.1.size).bind fun x5 => (relation_reader_run.f k x5.1 x5.2 false).bind fun x6 => if x6.1.toList = [] then some (noRel 220 x6.2.1 x6.2.2) else
      (version_Legal.f k x6.1).bind fun lg => if lg = false then some (noRel 200 x6.2.1 x6.2.2) else
      (relation_reader_pass.f k x6.2.1 x6.2.2 x6.1.size).bind fun x7 => (relation_reader_takes.f k x7.1 x7.2 41).bind fun x8 => if x8.1 = false then some (noRel 220 x8.2.1 x8.2.2) else some (ofL nm, opOf x4.1, x6.1, (0 : Int), x8.2.1, x8.2.2)) (relOut s (e : Int) (operM nm (at_ s i)).1) := by
  obtain ⟨x, hx1, hx2, hx3, hx4, hx5⟩ := sign_ev s i hs (s.size - i) i (by omega) (Nat.le_refl _)
  have hv : s.extract (i : Int).toNat (x : Int).toNat = ofL ((at_ s i).takeWhile mrkB) := by rw [ext_at, hx4, take_tw]
  rw [hv] at hx5
  have hr : Ev (fun k => relation_reader_run.f k s (i : Int) true) (ofL ((at_ s i).takeWhile mrkB), s, (i : Int)) := hx5
  by_cases e1 : opOf (ofL ((at_ s i).takeWhile mrkB)) = 0
  · refine ⟨i, Nat.le_refl _, hi, by simp only [operM, if_pos e1], ?_⟩
    refine Ev.bind hr ?_
    simp only [if_pos e1, operM, relOut]
    exact Ev.now _
  obtain ⟨p, hp1, hp2, hp3, hp4⟩ := pass_ev s hs i (x - i) (by omega)
  rw [show i + (x - i) = x by omega, hx3] at hp3
  obtain ⟨e, c1, c2, c3, c4⟩ := vers_ev s hs p hp2 nm (opOf (ofL ((at_ s i).takeWhile mrkB)))
  rw [hp3] at c3 c4
  refine ⟨e, by omega, c2, by rw [c3]; simp only [operM, if_neg e1], ?_⟩
  refine Ev.bind hr ?_
  simp only [if_neg e1, operM, ofL_size, ← hx4]
  exact Ev.bind hp4 c4
theorem rel_ev (s : ByteArray) (hs : s.size ≤ 140737488351232) (i : Nat) (hi : i ≤ s.size) : ∃ e : Nat, i ≤ e ∧ e ≤ s.size ∧ at_ s e = (relM (at_ s i)).2 ∧
    Ev (fun k => relation_reader_relation.f k s (i : Int)) (relOut s (e : Int) (relM (at_ s i)).1) := by
  obtain ⟨x, hx1, hx2, hx3, hx4, hx5⟩ := word_ev s i hs (s.size - i) i (by omega) (Nat.le_refl _)
  have hv : s.extract (i : Int).toNat (x : Int).toNat = ofL ((at_ s i).takeWhile wrdB) := by rw [ext_at, hx4, take_tw]
  rw [hv] at hx5
  have hr : Ev (fun k => relation_reader_run.f k s (i : Int) false) (ofL ((at_ s i).takeWhile wrdB), s, (i : Int)) := hx5
  unfold relation_reader_relation.f
  by_cases e1 : (at_ s i).takeWhile wrdB = []
  · refine ⟨i, Nat.le_refl _, hi, by simp only [relM, if_pos e1], ?_⟩
    refine Ev.bind hr ?_
    simp only [ofL_list, if_pos e1, relM, relOut]
    exact Ev.now _
  have hN := name_ev (ofL ((at_ s i).takeWhile wrdB)) (by rw [ofL_size]; omega)
  rw [toL_ofL] at hN
  by_cases e2 : nameM ((at_ s i).takeWhile wrdB) = false
  · refine ⟨i, Nat.le_refl _, hi, by simp only [relM, if_neg e1, if_pos e2], ?_⟩
    refine Ev.bind hr ?_
    simp only [ofL_list, if_neg e1]
    refine Ev.bind hN ?_
    simp only [if_pos e2, relM, if_neg e1, relOut]
    exact Ev.now _
  obtain ⟨p, hp1, hp2, hp3, hp4⟩ := pass_ev s hs i (x - i) (by omega)
  rw [show i + (x - i) = x by omega, hx3] at hp3
  have hP : ∀ {v}, Ev (fun k => (relation_reader_takes.f k s (p : Int) 40).bind fun x3 => if x3.1 = false then some (ofL ((at_ s i).takeWhile wrdB), 0, ⟨#[]⟩, 0, x3.2.1, x3.2.2) else
      (relation_reader_run.f k x3.2.1 x3.2.2 true).bind fun x4 => if opOf x4.1 = 0 then some (noRel 220 x4.2.1 x4.2.2) else
      (relation_reader_pass.f k x4.2.1 x4.2.2 x4.1.size).bind fun x5 => (relation_reader_run.f k x5.1 x5.2 false).bind fun x6 => if x6.1.toList = [] then some (noRel 220 x6.2.1 x6.2.2) else
      (version_Legal.f k x6.1).bind fun lg => if lg = false then some (noRel 200 x6.2.1 x6.2.2) else
      (relation_reader_pass.f k x6.2.1 x6.2.2 x6.1.size).bind fun x7 => (relation_reader_takes.f k x7.1 x7.2 41).bind fun x8 => if x8.1 = false then some (noRel 220 x8.2.1 x8.2.2) else some (ofL ((at_ s i).takeWhile wrdB), opOf x4.1, x6.1, 0, x8.2.1, x8.2.2)) v →
      Ev (fun k => (relation_reader_run.f k s (i : Int) false).bind fun x1 => if x1.1.toList = [] then some (noRel 220 x1.2.1 x1.2.2) else
      (relation_Name.f k x1.1).bind fun nm => if nm = false then some (noRel 230 x1.2.1 x1.2.2) else
      (relation_reader_pass.f k x1.2.1 x1.2.2 x1.1.size).bind fun x2 => (relation_reader_takes.f k x2.1 x2.2 40).bind fun x3 => if x3.1 = false then some (x1.1, 0, ⟨#[]⟩, 0, x3.2.1, x3.2.2) else
      (relation_reader_run.f k x3.2.1 x3.2.2 true).bind fun x4 => if opOf x4.1 = 0 then some (noRel 220 x4.2.1 x4.2.2) else
      (relation_reader_pass.f k x4.2.1 x4.2.2 x4.1.size).bind fun x5 => (relation_reader_run.f k x5.1 x5.2 false).bind fun x6 => if x6.1.toList = [] then some (noRel 220 x6.2.1 x6.2.2) else
      (version_Legal.f k x6.1).bind fun lg => if lg = false then some (noRel 200 x6.2.1 x6.2.2) else
      (relation_reader_pass.f k x6.2.1 x6.2.2 x6.1.size).bind fun x7 => (relation_reader_takes.f k x7.1 x7.2 41).bind fun x8 => if x8.1 = false then some (noRel 220 x8.2.1 x8.2.2) else some (x1.1, opOf x4.1, x6.1, 0, x8.2.1, x8.2.2)) v := by
    intro v h
    refine Ev.bind hr ?_
    simp only [ofL_list, if_neg e1]
    refine Ev.bind hN ?_
    simp only [if_neg e2, ofL_size, ← hx4]
    exact Ev.bind hp4 h
  have eM : relM (at_ s i) = openM ((at_ s i).takeWhile wrdB) (at_ s p) := by
    rw [hp3]
    simp only [relM, if_neg e1, if_neg e2]
  rw [eM]
  clear hr hN hp4
  cases hl : at_ s p with
  | nil =>
    refine ⟨p, by omega, hp2, hl, hP ?_⟩
    refine Ev.bind (takes_no s p 40 hp2 (.inl (at_nil hp2 hl))) ?_
    simp only [if_true, openM, relOut]
    exact Ev.now _
  | cons c r =>
    obtain ⟨h1, h2, h3⟩ := at_cons hp2 hl
    by_cases hc : c = 40
    · subst hc
      obtain ⟨q, q1, q2, q3, q4⟩ := takes_yes s hs p 40 h1 h2
      rw [h3] at q3
      obtain ⟨e, c1, c2, c3, c4⟩ := oper_ev s hs q q2 ((at_ s i).takeWhile wrdB)
      rw [q3] at c3 c4
      refine ⟨e, by omega, c2, by rw [c3]; simp only [openM, if_true], hP ?_⟩
      refine Ev.bind q4 ?_
      simp only [Bool.true_eq_false, if_false, openM, if_true]
      exact c4
    · refine ⟨p, by omega, hp2, by rw [hl]; simp only [openM, if_neg hc], hP ?_⟩
      refine Ev.bind (takes_no s p 40 hp2 (.inr ?_)) ?_
      · rw [h2]
        exact fun q => hc (toNat_inj.1 (show (c.toNat : Int) = ((40 : UInt8).toNat : Int) from q))
      · simp only [if_true, openM, if_neg hc, relOut]
        exact Ev.now _
end Go.Proofs.YtmocooihkobdjaaDoor.Model
end
section
set_option linter.unusedVariables false
set_option linter.unusedSimpArgs false
namespace Go.Proofs.YtmocooihkobdjaaDoor.Model
open Go.RowKit Go.Proofs.YtmocooihkobdjaaDoor.Q Go.Proofs.YtmocooihkobdjaaDoorW.PrintWords Go.Proofs.YtmocooihkobdjaaDoorW.PrintLast Go.Proofs.YtmocooihkobdjaaDoor.Ver
def formM (x : S46) : Bool := nameM x.f0.data.toList && (if x.f1 = 0 then x.f2.toList == ([] : List UInt8) else if (wordOf x.f1).toList = ([] : List UInt8) then false else okS x.f2)
theorem rd_at {L : List (List S46)} {i : Nat} (h : i < L.length) : rd_L3 L (i : Int) = L[i] := by
  unfold rd_L3
  rw [Int.toNat_natCast, List.getD_eq_getElem?_getD, List.getElem?_eq_getElem h, Option.getD_some]
theorem drop_at {α : Type} {l : List α} {i : Nat} (h : i < l.length) : l.drop i = l[i] :: l.drop (i + 1) := List.drop_eq_getElem_cons h
end Go.Proofs.YtmocooihkobdjaaDoor.Model
end
section
set_option linter.unusedVariables false
set_option linter.unusedSimpArgs false
namespace Go.Proofs.YtmocooihkobdjaaDoor.Model
open Go.RowKit Go.Proofs.YtmocooihkobdjaaDoor.Q Go.Proofs.YtmocooihkobdjaaDoorW.PrintWords Go.Proofs.YtmocooihkobdjaaDoorW.PrintLast Go.Proofs.YtmocooihkobdjaaDoor.Ver
theorem dg_le (l : B) : (dg l).length ≤ l.length := (List.dropWhile_sublist _).length_le
theorem dg_dg (l : B) : dg (dg l) = dg l := by
  unfold dg
  induction l with
  | nil => rfl
  | cons c l ih =>
    rw [List.dropWhile_cons]
    split
    · exact ih
    · rw [List.dropWhile_cons]; rw [if_neg ‹_›]
theorem tw_dw (p : UInt8 → Bool) (l : B) : (l.takeWhile p).length + (l.dropWhile p).length = l.length := by
  have := congrArg List.length (List.takeWhile_append_dropWhile (p := p) (l := l))
  rw [List.length_append] at this
  exact this
def relSize (x : S46) : Nat := x.f0.size + x.f2.size
theorem word_op (m : ByteArray) (h : ¬ opOf m = 0) : wordOf (opOf m) = m := by
  have hm : m = ofL m.toList := by
    obtain ⟨⟨x⟩⟩ := m
    rw [ByteArray.toList_eq]; rfl
  obtain ⟨i1, i2, i3, i4, i5⟩ := opOf_iff m
  have hb := opOf_bd m
  have hc : opOf m = 1 ∨ opOf m = 2 ∨ opOf m = 3 ∨ opOf m = 4 ∨ opOf m = 5 := by omega
  rcases hc with e | e | e | e | e
  · rw [e, hm, i1.1 e]; rfl
  · rw [e, hm, i2.1 e]; rfl
  · rw [e, hm, i3.1 e]; rfl
  · rw [e, hm, i4.1 e]; rfl
  · rw [e, hm, i5.1 e]; rfl
theorem closeM_inr {x y : S46} {l r : B} (h : closeM x l = (.inr y, r)) : y = x ∧ r.length < l.length ∧ dg r = r := by
  unfold closeM at h
  split at h
  · simp at h
  · split at h
    · simp only [Prod.mk.injEq, Sum.inr.injEq] at h
      obtain ⟨rfl, rfl⟩ := h
      rename_i c r' _
      have := dg_le r'
      exact ⟨rfl, by simp only [List.length_cons]; omega, dg_dg _⟩
    · simp at h
theorem closeM_inl {x : S46} {e : Int} {l r : B} (h : closeM x l = (.inl e, r)) : e = 220 ∧ r.length ≤ l.length := by
  unfold closeM at h
  split at h
  · simp only [Prod.mk.injEq, Sum.inl.injEq] at h
    obtain ⟨rfl, rfl⟩ := h
    exact ⟨rfl, Nat.le_refl _⟩
  · split at h
    · simp at h
    · simp only [Prod.mk.injEq, Sum.inl.injEq] at h
      obtain ⟨rfl, rfl⟩ := h
      exact ⟨rfl, Nat.le_refl _⟩
theorem versM_inr {nm : B} {op : Int} {y : S46} {l r : B} (h : versM nm op l = (.inr y, r)) : y.f0 = ofL nm ∧ y.f1 = op ∧ okS y.f2 = true ∧ y.f2.size + r.length < l.length ∧ dg r = r := by
  unfold versM at h
  split at h
  · simp at h
  · split at h
    · simp at h
    · rename_i h1 h2
      obtain ⟨rfl, h3, h4⟩ := closeM_inr h
      refine ⟨rfl, rfl, by simpa using h2, ?_, h4⟩
      have a1 := tw_dw wrdB l
      have a2 := dg_le (l.dropWhile wrdB)
      simp only [ofL_size]
      omega
theorem versM_inl {nm : B} {op : Int} {e : Int} {l r : B} (h : versM nm op l = (.inl e, r)) : (e = 220 ∨ e = 200) ∧ r.length ≤ l.length := by
  unfold versM at h
  split at h
  · simp only [Prod.mk.injEq, Sum.inl.injEq] at h
    obtain ⟨rfl, rfl⟩ := h
    exact ⟨.inl rfl, Nat.le_refl _⟩
  · split at h
    · simp only [Prod.mk.injEq, Sum.inl.injEq] at h
      obtain ⟨rfl, rfl⟩ := h
      exact ⟨.inr rfl, Nat.le_refl _⟩
    · obtain ⟨rfl, h3⟩ := closeM_inl h
      have a1 := tw_dw wrdB l
      have a2 := dg_le (l.dropWhile wrdB)
      exact ⟨.inl rfl, by omega⟩
theorem operM_inr {nm : B} {y : S46} {l r : B} (h : operM nm l = (.inr y, r)) : y.f0 = ofL nm ∧ ¬ y.f1 = 0 ∧ ¬ (wordOf y.f1).toList = [] ∧ okS y.f2 = true ∧ y.f2.size + r.length < l.length ∧ dg r = r := by
  unfold operM at h
  split at h
  · simp at h
  · rename_i h1
    obtain ⟨a, b, c, d, e⟩ := versM_inr h
    have a1 := tw_dw mrkB l
    have a2 := dg_le (l.dropWhile mrkB)
    refine ⟨a, by rw [b]; exact h1, ?_, c, by omega, e⟩
    rw [b, word_op _ h1, ofL_list]
    intro q
    rw [q] at h1
    exact h1 (by unfold opOf; simp [ofL_list])
theorem operM_inl {nm : B} {e : Int} {l r : B} (h : operM nm l = (.inl e, r)) : (e = 220 ∨ e = 200) ∧ r.length ≤ l.length := by
  unfold operM at h
  split at h
  · simp only [Prod.mk.injEq, Sum.inl.injEq] at h
    obtain ⟨rfl, rfl⟩ := h
    exact ⟨.inl rfl, Nat.le_refl _⟩
  · obtain ⟨h1, h3⟩ := versM_inl h
    have a1 := tw_dw mrkB l
    have a2 := dg_le (l.dropWhile mrkB)
    exact ⟨h1, by omega⟩
theorem openM_inr {nm : B} {y : S46} {l r : B} (h : openM nm l = (.inr y, r)) (hd : dg l = l) : y.f0 = ofL nm ∧ ((y.f1 = 0 ∧ y.f2 = ⟨#[]⟩) ∨ (¬ y.f1 = 0 ∧ ¬ (wordOf y.f1).toList = [] ∧ okS y.f2 = true)) ∧ y.f2.size + r.length ≤ l.length ∧ dg r = r := by
  unfold openM at h
  split at h
  · simp only [Prod.mk.injEq, Sum.inr.injEq] at h
    obtain ⟨rfl, rfl⟩ := h
    exact ⟨rfl, .inl ⟨rfl, rfl⟩, Nat.le_refl _, rfl⟩
  · split at h
    · obtain ⟨a, b, c, d, e, f⟩ := operM_inr h
      rename_i c' r' _
      have := dg_le r'
      exact ⟨a, .inr ⟨b, c, d⟩, by simp only [List.length_cons]; omega, f⟩
    · simp only [Prod.mk.injEq, Sum.inr.injEq] at h
      obtain ⟨rfl, rfl⟩ := h
      exact ⟨rfl, .inl ⟨rfl, rfl⟩, by show 0 + _ ≤ _; omega, hd⟩
theorem openM_inl {nm : B} {e : Int} {l r : B} (h : openM nm l = (.inl e, r)) : (e = 220 ∨ e = 200) ∧ r.length ≤ l.length := by
  unfold openM at h
  split at h
  · simp at h
  · split at h
    · obtain ⟨a, b⟩ := operM_inl h
      rename_i c' r' _
      have := dg_le r'
      exact ⟨a, by simp only [List.length_cons]; omega⟩
    · simp at h
theorem relM_inr {y : S46} {l r : B} (h : relM l = (.inr y, r)) : formM y = true ∧ 1 ≤ y.f0.size ∧ relSize y + r.length ≤ l.length ∧ dg r = r := by
  unfold relM at h
  split at h
  · simp at h
  · split at h
    · simp at h
    · rename_i h1 h2
      obtain ⟨a, b, c, d⟩ := openM_inr h (dg_dg _)
      have a1 := tw_dw wrdB l
      have a2 := dg_le (l.dropWhile wrdB)
      have hn : nameM y.f0.data.toList = true := by rw [a, toL_ofL]; simpa using h2
      have hz : 1 ≤ (l.takeWhile wrdB).length := by
        rcases Nat.eq_zero_or_pos (l.takeWhile wrdB).length with q | q
        · exact absurd (List.eq_nil_of_length_eq_zero q) h1
        · exact q
      refine ⟨?_, by rw [a, ofL_size]; exact hz, ?_, d⟩
      · unfold formM
        rw [hn]
        rcases b with ⟨b1, b2⟩ | ⟨b1, b2, b3⟩
        · rw [if_pos b1, b2]
          show (true && ((ofL []).toList == [])) = true
          rw [ofL_list]; rfl
        · rw [if_neg b1, if_neg b2, b3]; rfl
      · unfold relSize
        rw [a, ofL_size]
        omega
theorem relM_inl {e : Int} {l r : B} (h : relM l = (.inl e, r)) : (e = 220 ∨ e = 230 ∨ e = 200) ∧ r.length ≤ l.length := by
  unfold relM at h
  split at h
  · simp only [Prod.mk.injEq, Sum.inl.injEq] at h
    obtain ⟨rfl, rfl⟩ := h
    exact ⟨.inl rfl, Nat.le_refl _⟩
  · split at h
    · simp only [Prod.mk.injEq, Sum.inl.injEq] at h
      obtain ⟨rfl, rfl⟩ := h
      exact ⟨.inr (.inl rfl), Nat.le_refl _⟩
    · obtain ⟨h1, h3⟩ := openM_inl h
      have a1 := tw_dw wrdB l
      have a2 := dg_le (l.dropWhile wrdB)
      exact ⟨by rcases h1 with h1 | h1 <;> simp [h1], by omega⟩
def listsM (bars : Bool) : Nat → List (List S46) → List S46 → B → List (List S46) × Int × B
  | 0, _, _, l => ([], 0, l)
  | d + 1, x8, x10, l => match relM l with
    | (.inl e, r) => ([], e, r)
    | (.inr x, []) => (x8 ++ [x10 ++ [x]], 0, [])
    | (.inr x, c :: r) =>
      if c = 124 ∧ bars = true then listsM bars d x8 (x10 ++ [x]) (dg r)
      else if c = 44 then listsM bars d (x8 ++ [x10 ++ [x]]) [] (dg r)
      else ([], 220, c :: r)
def readM (bars : Bool) (l : B) : List (List S46) × Int × B :=
  if dg l = [] then ([], 0, []) else listsM bars ((dg l).length + 1) [] [] (dg l)
def placeM (s : ByteArray) (R : List (List S46) × Int × B) : List (List S46) × Int × Int := (R.1, R.2.1, if R.2.1 = 0 then 0 else ((s.size - R.2.2.length : Nat) : Int))
theorem place_at {s : ByteArray} {e : Nat} {r : B} (he : e ≤ s.size) (h : at_ s e = r) : s.size - r.length = e := by
  rw [← h, at_len]
  omega
theorem lists_ev (s : ByteArray) (hs : s.size ≤ 140737488351232) (hb : s.size ≤ 3000000000000) (bars : Bool) : ∀ (d i : Nat), s.size - i < d → i ≤ s.size → ∀ (x8 : List (List S46)) (x10 : List S46), x8.length + x10.length ≤ i →
    Ev (fun k => relation_read.l1 k s bars x8 x10 true s (i : Int)) (placeM s (listsM bars d x8 x10 (at_ s i))) := by
  intro d
  induction d with
  | zero => intro i hd; exact absurd hd (by omega)
  | succ d ih =>
    intro i hd hi x8 x10 hlen
    obtain ⟨e, he1, he2, he3, hp⟩ := rel_ev s hs i hi
    have hP : ∀ {v}, Ev (fun k => ((relation_reader_relation.f k s (i : Int)).bind fun bt126 => (if bt126.2.2.2.1 = 0 then (if x10.length < 3518437208883 then ((some (x10 ++ [(⟨bt126.1, bt126.2.1, bt126.2.2.1⟩ : S46)] : List (S46))).bind fun y133 => (if bars = true then ((relation_reader_takes.f k bt126.2.2.2.2.1 bt126.2.2.2.2.2 124).bind fun bt136 => (relation_read.l1 k s bars x8 y133 bt136.1 bt136.2.1 bt136.2.2)) else (relation_read.l1 k s bars x8 y133 false bt126.2.2.2.2.1 bt126.2.2.2.2.2))) else (none)) else (some (([] : List (List (S46))), bt126.2.2.2.1, bt126.2.2.2.2.2))))) v → Ev (fun k => relation_read.l1 k s bars x8 x10 true s (i : Int)) v := by
      intro v h
      refine Ev.step (f := _) (fun k => ?_) h
      simp only [relation_read.l1, if_true]
    rw [listsM]
    cases hR : relM (at_ s i) with
    | mk q r =>
    rw [hR] at hp he3
    cases q with
    | inl er =>
      have hne : ¬ er = 0 := by
        rcases (relM_inl hR).1 with h | h | h <;> omega
      refine hP (Ev.bind hp ?_)
      simp only [relOut, noRel, placeM, hne, if_false]
      rw [place_at he2 he3]
      exact Ev.now _
    | inr x =>
      obtain ⟨f1, f2, f3, f4⟩ := relM_inr hR
      have hie : i < e := by
        have := at_len s i
        have h2 := at_len s e
        simp only at he3
        rw [he3] at h2
        unfold relSize at f3
        omega
      have hP2 : ∀ {v}, Ev (fun k => if bars = true then ((relation_reader_takes.f k s (e : Int) 124).bind fun bt136 => (relation_read.l1 k s bars x8 (x10 ++ [x]) bt136.1 bt136.2.1 bt136.2.2)) else (relation_read.l1 k s bars x8 (x10 ++ [x]) false s (e : Int))) v → Ev (fun k => relation_read.l1 k s bars x8 x10 true s (i : Int)) v := by
        intro v h
        refine hP (Ev.bind hp ?_)
        simp only [relOut, if_true, if_pos (show x10.length < 3518437208883 by omega), Option.bind_some]
        exact h
      have hyl : (x10 ++ [x]).length = x10.length + 1 := by simp
      have hlen8 : (x8 ++ [x10 ++ [x]]).length = x8.length + 1 := by simp
      have hP3 : ∀ {v}, Ev (fun k => relation_read.l1 k s bars x8 (x10 ++ [x]) false s (e : Int)) v → (bars = true → e = s.size ∨ ¬ bt s (e : Int) = 124) → Ev (fun k => relation_read.l1 k s bars x8 x10 true s (i : Int)) v := by
        intro v h hno
        refine hP2 ?_
        by_cases hbars : bars = true
        · simp only [if_pos hbars]
          exact Ev.bind (takes_no s e 124 he2 (hno hbars)) h
        · simp only [if_neg hbars]
          exact h
      have hP4 : ∀ {v}, Ev (fun k => (relation_reader_takes.f k s (e : Int) 44).bind fun bt123 => (relation_read.l0 k s bars (x8 ++ [x10 ++ [x]]) bt123.1 bt123.2.1 bt123.2.2)) v → (bars = true → e = s.size ∨ ¬ bt s (e : Int) = 124) → Ev (fun k => relation_read.l1 k s bars x8 x10 true s (i : Int)) v := by
        intro v h hno
        refine hP3 (Ev.step (f := _) (fun k => ?_) h) hno
        simp only [relation_read.l1, Bool.false_eq_true, if_false, if_pos (show x8.length < 5864062014805 by omega)]
      cases r with
      | nil =>
        have hes := at_nil he2 he3
        simp only [placeM, if_true]
        refine hP4 ?_ (fun _ => .inl hes)
        refine Ev.bind (takes_no s e 44 he2 (.inl hes)) ?_
        refine Ev.step (f := fun _ => some (x8 ++ [x10 ++ [x]], 0, 0)) (fun k => ?_) (Ev.now _)
        simp only [relation_read.l0, Bool.false_eq_true, if_false, if_neg (show ¬ (e : Int) < s.size by omega)]
      | cons c r =>
        obtain ⟨h1, h2, h3⟩ := at_cons he2 he3
        simp only
        by_cases hC : c = 124 ∧ bars = true
        · rw [if_pos hC]
          obtain ⟨hc, hbars⟩ := hC
          subst hc
          obtain ⟨f, hf1, hf2, hf3, hf4⟩ := takes_yes s hs e 124 h1 h2
          rw [h3] at hf3
          refine hP2 ?_
          simp only [if_pos hbars]
          refine Ev.bind hf4 ?_
          rw [← hf3]
          exact ih f (by omega) hf2 x8 (x10 ++ [x]) (by omega)
        · have hno : bars = true → e = s.size ∨ ¬ bt s (e : Int) = 124 := by
            intro hbars
            right
            rw [h2]
            exact fun q => hC ⟨toNat_inj.1 (show (c.toNat : Int) = ((124 : UInt8).toNat : Int) from q), hbars⟩
          rw [if_neg hC]
          by_cases hc : c = 44
          · rw [if_pos hc]
            subst hc
            obtain ⟨f, hf1, hf2, hf3, hf4⟩ := takes_yes s hs e 44 h1 h2
            rw [h3] at hf3
            refine hP4 ?_ hno
            refine Ev.bind hf4 ?_
            rw [← hf3]
            refine Ev.step (f := _) (fun k => ?_) (ih f (by omega) hf2 (x8 ++ [x10 ++ [x]]) [] (by rw [hlen8]; simp only [List.length_nil]; omega))
            simp only [relation_read.l0, if_true]
          · rw [if_neg hc]
            have hpl := place_at he2 he3
            simp only [placeM]
            rw [hpl]
            refine hP4 ?_ hno
            refine Ev.bind (takes_no s e 44 he2 (.inr ?_)) ?_
            · rw [h2]
              exact fun q => hc (toNat_inj.1 (show (c.toNat : Int) = ((44 : UInt8).toNat : Int) from q))
            · refine Ev.step (f := fun _ => some ([], 220, (e : Int))) (fun k => ?_) (Ev.now _)
              simp only [relation_read.l0, Bool.false_eq_true, if_false, if_pos (show (e : Int) < s.size by omega)]
theorem read_ev (s : ByteArray) (hb : s.size ≤ 3000000000000) (bars : Bool) : Ev (fun k => relation_read.f k s bars) (placeM s (readM bars s.data.toList)) := by
  have hs : s.size ≤ 140737488351232 := by omega
  obtain ⟨i, h1, h2, h3, hp⟩ := gaps_ev s hs s.size 0 (by omega)
  rw [at_zero] at h3
  unfold relation_read.f readM
  rw [← h3]
  refine Ev.bind hp ?_
  by_cases he : i = s.size
  · subst he
    simp only [if_true, at_end, placeM]
    exact Ev.now _
  · have hne : ¬ at_ s i = [] := fun q => he (at_nil h2 q)
    simp only [if_neg (show ¬ (i : Int) = s.size by omega), if_neg hne]
    refine Ev.step (f := _) (fun k => ?_) (lists_ev s hs hb bars ((at_ s i).length + 1) i (by rw [at_len]; omega) h2 [] [] (by simp))
    simp only [relation_read.l0, if_true]
end Go.Proofs.YtmocooihkobdjaaDoor.Model
end
section
set_option linter.unusedVariables false
set_option linter.unusedSimpArgs false
namespace Go.Proofs.YtmocooihkobdjaaDoor.Model
open Go.RowKit Go.Proofs.YtmocooihkobdjaaDoor.Q Go.Proofs.YtmocooihkobdjaaDoorW.PrintWords Go.Proofs.YtmocooihkobdjaaDoorW.PrintLast Go.Proofs.YtmocooihkobdjaaDoor.Ver
def wt (l : List S46) : Nat := (l.map relSize).sum
theorem wt_one (x : S46) : wt [x] = relSize x := by simp [wt]
theorem wt_len {l : List S46} (h : ∀ x ∈ l, 1 ≤ x.f0.size) : l.length ≤ wt l := by
  induction l with
  | nil => exact Nat.zero_le _
  | cons x l ih =>
    have h1 := ih (fun y hy => h y (List.mem_cons_of_mem _ hy))
    have h2 := h x (List.mem_cons_self ..)
    have h3 : wt (x :: l) = relSize x + wt l := by simp [wt]
    rw [h3, List.length_cons]
    unfold relSize
    omega
def Good (x : S46) : Prop := formM x = true ∧ 1 ≤ x.f0.size
theorem listsM_ok (bars : Bool) : ∀ (d : Nat) (x8 : List (List S46)) (x10 : List S46) (l : B), l.length < d → (listsM bars d x8 x10 l).2.1 = 0 →
    (listsM bars d x8 x10 l).2.2 = [] ∧ ∃ t rest, (listsM bars d x8 x10 l).1 = x8 ++ (x10 ++ t) :: rest ∧ t ≠ [] ∧ (∀ m ∈ rest, m ≠ []) ∧ (∀ x ∈ t ++ rest.flatten, Good x) ∧ wt (t ++ rest.flatten) ≤ l.length := by
  intro d
  induction d with
  | zero => intro x8 x10 l h; omega
  | succ d ih =>
    intro x8 x10 l hd
    rw [listsM]
    split
    · rename_i e r hR
      intro h0
      have := (relM_inl hR).1
      simp only at h0
      omega
    · rename_i x hR
      intro _
      obtain ⟨f1, f2, f3, f4⟩ := relM_inr hR
      refine ⟨rfl, [x], [], by simp, by simp, by simp, ?_, ?_⟩
      · intro y hy
        obtain rfl : y = x := by simpa using hy
        exact ⟨f1, f2⟩
      · simp only [List.flatten_nil, List.append_nil, wt_one]
        simp at f3
        omega
    · rename_i x c r hR
      obtain ⟨f1, f2, f3, f4⟩ := relM_inr hR
      have hg := dg_le r
      simp only [List.length_cons] at f3
      have hsz : 1 ≤ relSize x := by unfold relSize; omega
      split
      · intro h0
        obtain ⟨a, t, rest, b1, b2, b3, b4, b5⟩ := ih x8 (x10 ++ [x]) (dg r) (by omega) h0
        refine ⟨a, x :: t, rest, by rw [b1]; simp, by simp, b3, ?_, ?_⟩
        · intro y hy
          rcases List.mem_cons.1 (show y ∈ x :: (t ++ rest.flatten) from hy) with q | q
          · rw [q]; exact ⟨f1, f2⟩
          · exact b4 y q
        · have : wt (x :: t ++ rest.flatten) = relSize x + wt (t ++ rest.flatten) := by simp [wt]
          omega
      · split
        · intro h0
          obtain ⟨a, t, rest, b1, b2, b3, b4, b5⟩ := ih (x8 ++ [x10 ++ [x]]) [] (dg r) (by omega) h0
          refine ⟨a, [x], ([] ++ t) :: rest, by rw [b1]; simp, by simp, ?_, ?_, ?_⟩
          · intro m hm
            rcases List.mem_cons.1 hm with q | q
            · rw [q]; simpa using b2
            · exact b3 m q
          · intro y hy
            have hy' : y ∈ x :: (t ++ rest.flatten) := by simpa using hy
            rcases List.mem_cons.1 hy' with q | q
            · rw [q]; exact ⟨f1, f2⟩
            · exact b4 y q
          · have : wt ([x] ++ (([] ++ t) :: rest).flatten) = relSize x + wt (t ++ rest.flatten) := by simp [wt]
            omega
        · intro h0
          simp at h0
theorem listsM_err (bars : Bool) : ∀ (d : Nat) (x8 : List (List S46)) (x10 : List S46) (l : B), l.length < d → ¬ (listsM bars d x8 x10 l).2.1 = 0 → (listsM bars d x8 x10 l).1 = [] := by
  intro d
  induction d with
  | zero => intro x8 x10 l h; omega
  | succ d ih =>
    intro x8 x10 l hd
    rw [listsM]
    split
    · intro _; rfl
    · intro h; exact absurd rfl h
    · rename_i x c r hR
      obtain ⟨f1, f2, f3, f4⟩ := relM_inr hR
      have hg := dg_le r
      simp only [List.length_cons] at f3
      split
      · exact ih _ _ _ (by omega)
      · split
        · exact ih _ _ _ (by omega)
        · intro _; rfl
theorem readM_ok (bars : Bool) (l : B) (h : (readM bars l).2.1 = 0) : (readM bars l).2.2 = [] ∧ (∀ m ∈ (readM bars l).1, m ≠ []) ∧ (∀ x ∈ (readM bars l).1.flatten, Good x) ∧ wt (readM bars l).1.flatten ≤ l.length := by
  unfold readM at h ⊢
  split at h
  · rename_i hn
    rw [if_pos hn]
    exact ⟨rfl, by simp, by simp, by simp [wt]⟩
  · rename_i hn
    rw [if_neg hn]
    obtain ⟨a, t, rest, b1, b2, b3, b4, b5⟩ := listsM_ok bars _ [] [] (dg l) (Nat.lt_succ_self _) h
    have hg := dg_le l
    have e : (listsM bars ((dg l).length + 1) [] [] (dg l)).1 = t :: rest := by simpa using b1
    rw [e]
    refine ⟨a, ?_, b4, Nat.le_trans b5 hg⟩
    intro m hm
    rcases List.mem_cons.1 hm with q | q
    · rw [q]; exact b2
    · exact b3 m q
theorem readM_err (bars : Bool) (l : B) (h : ¬ (readM bars l).2.1 = 0) : (readM bars l).1 = [] := by
  unfold readM at h ⊢
  split at h
  · exact absurd rfl h
  · rename_i hn
    rw [if_neg hn]
    exact listsM_err bars _ [] [] (dg l) (Nat.lt_succ_self _) h
theorem flat_len {L : List (List S46)} (h : ∀ m ∈ L, m ≠ []) : L.length ≤ L.flatten.length := by
  induction L with
  | nil => exact Nat.le_refl _
  | cons a L ih =>
    have h1 := ih (fun m hm => h m (List.mem_cons_of_mem _ hm))
    have h2 : 1 ≤ a.length := by
      rcases Nat.eq_zero_or_pos a.length with q | q
      · exact absurd (List.eq_nil_of_length_eq_zero q) (h a (List.mem_cons_self ..))
      · exact q
    simp only [List.flatten_cons, List.length_append, List.length_cons]
    omega
theorem readM_bd (bars : Bool) (l : B) : (readM bars l).1.flatten.length ≤ l.length ∧ (readM bars l).1.length ≤ l.length := by
  by_cases h : (readM bars l).2.1 = 0
  · obtain ⟨a, b, c, d⟩ := readM_ok bars l h
    have h1 := wt_len (fun x hx => (c x hx).2)
    have h2 := flat_len b
    omega
  · rw [readM_err bars l h]
    simp
end Go.Proofs.YtmocooihkobdjaaDoor.Model
end
section
set_option linter.unusedVariables false
set_option linter.unusedSimpArgs false
namespace Go.Proofs.YtmocooihkobdjaaDoor.Model
open Go.RowKit Go.Proofs.YtmocooihkobdjaaDoor.Q Go.Proofs.YtmocooihkobdjaaDoorW.PrintWords Go.Proofs.YtmocooihkobdjaaDoorW.PrintLast Go.Proofs.YtmocooihkobdjaaDoor.Ver
theorem Read_ev (s : ByteArray) (hb : s.size ≤ 3000000000000) : Ev (fun k => relation_Read.f k s) (placeM s (readM true s.data.toList)) := by
  unfold relation_Read.f
  exact Ev.bind (read_ev s hb true) (Ev.now _)
end Go.Proofs.YtmocooihkobdjaaDoor.Model
end
section
set_option linter.unusedVariables false
set_option linter.unusedSimpArgs false
namespace Go.Proofs.YtmocooihkobdjaaDoor.Model
open Go.RowKit Go.Proofs.YtmocooihkobdjaaDoor.Q Go.Proofs.YtmocooihkobdjaaDoorW.PrintWords Go.Proofs.YtmocooihkobdjaaDoorW.PrintLast Go.Proofs.YtmocooihkobdjaaDoor.Ver
theorem readlist_l0 (L : List (List S46)) (er p : Int) (hL : L.length ≤ 140737488351232) : ∀ (d i : Nat), i + d = L.length → ∀ acc : List S46, acc.length + (L.drop i).flatten.length < 3518437208883 → Ev (fun k => relation_ReadList.l0 k er p acc L (L.length : Int) (i : Int)) (acc ++ (L.drop i).flatten, er, p) := by
  intro d
  induction d with
  | zero =>
    intro i hi acc ha
    rw [List.drop_of_length_le (by omega), List.flatten_nil, List.append_nil]
    refine Ev.step (f := fun _ => some (acc, er, p)) (fun k => ?_) (Ev.now _)
    simp only [relation_ReadList.l0]
    rw [if_neg (by omega)]
  | succ d ih =>
    intro i hi acc ha
    have hi' : i < L.length := by omega
    have ew : wrap64 ((i : Int) + 1) = ((i + 1 : Nat) : Int) := by rw [wrap_id (by omega) (by omega)]; omega
    rw [drop_at hi', List.flatten_cons, List.length_append] at ha
    have hn := ih (i + 1) (by omega) (acc ++ L[i]) (by rw [List.length_append]; omega)
    rw [drop_at hi', List.flatten_cons, ← List.append_assoc]
    refine Ev.step (f := _) (fun k => ?_) hn
    simp only [relation_ReadList.l0, ew, rd_at hi', if_pos (show (i : Int) < L.length by omega), if_pos (show (0 : Int) ≤ i by omega), if_pos (show acc.length + L[i].length < 3518437208883 by omega)]
theorem ReadList_ev (s : ByteArray) (hb : s.size ≤ 3000000000000) : Ev (fun k => relation_ReadList.f k s) ((readM false s.data.toList).1.flatten, (placeM s (readM false s.data.toList)).2) := by
  unfold relation_ReadList.f
  refine Ev.bind (read_ev s hb false) ?_
  obtain ⟨b1, b2⟩ := readM_bd false s.data.toList
  have hz : s.data.toList.length = s.size := by simp
  have := readlist_l0 (readM false s.data.toList).1 (placeM s (readM false s.data.toList)).2.1 (placeM s (readM false s.data.toList)).2.2 (by omega) (readM false s.data.toList).1.length 0 (by omega) [] (by simp only [List.length_nil, List.drop_zero]; omega)
  simp only [List.drop_zero, List.nil_append] at this
  exact this
end Go.Proofs.YtmocooihkobdjaaDoor.Model
end
section
set_option linter.unusedVariables false
set_option linter.unusedSimpArgs false
namespace Go.Proofs.YtmocooihkobdjaaDoor.Model
open Go.RowKit Go.Proofs.YtmocooihkobdjaaDoor.Q Go.Proofs.YtmocooihkobdjaaDoorW.PrintWords Go.Proofs.YtmocooihkobdjaaDoorW.PrintLast Go.Proofs.YtmocooihkobdjaaDoor.Ver
abbrev Q := List (List S46) × List S46 × List S48
def splitL : B → List B
  | [] => [[]]
  | c :: r => if c = 10 then [] :: splitL r else match splitL r with | [] => [[c]] | x :: xs => (c :: x) :: xs
theorem splitL_ne : ∀ l : B, splitL l ≠ []
  | [] => by simp [splitL]
  | c :: r => by
    unfold splitL
    split
    · simp
    · split <;> simp
theorem splitL_cons (c : UInt8) (r : B) (h : ¬ c = 10) : ∃ x xs, splitL r = x :: xs ∧ splitL (c :: r) = (c :: x) :: xs := by
  cases hs : splitL r with
  | nil => exact absurd hs (splitL_ne r)
  | cons x xs =>
    refine ⟨x, xs, rfl, ?_⟩
    rw [splitL, if_neg h, hs]
theorem splitK_eq : ∀ l : B, Lib.splitK [10] 0 (l.count 10) l = splitL l
  | [] => rfl
  | c :: r => by
    have ih := splitK_eq r
    by_cases hc : c = 10
    · subst hc
      have e : List.count (10 : UInt8) (10 :: r) = r.count 10 + 1 := by simp
      have ei : Lib.index ((10 : UInt8) :: r) [10] = 0 := by rw [Lib.index_one]; rfl
      rw [e, Lib.splitK, ei, if_neg (by decide), splitL, if_pos rfl, ← ih]
      simp
    · have e : List.count (10 : UInt8) (c :: r) = r.count 10 := by rw [List.count_cons_of_ne]; exact hc
      obtain ⟨x, xs, h1, h2⟩ := splitL_cons c r hc
      rw [e, h2]
      have hge := Lib.indexByte_ge r 10
      have ei : Lib.index (c :: r) [10] = if Lib.indexByte r 10 == -1 then -1 else Lib.indexByte r 10 + 1 := by
        rw [Lib.index_one, Lib.indexByte, if_neg (by simpa using hc)]
      cases hn : r.count 10 with
      | zero =>
        rw [hn] at ih
        rw [Lib.splitK] at ih ⊢
        rw [h1] at ih
        injection ih with e1 e2
        rw [e1, ← e2]
      | succ n =>
        rw [hn] at ih
        rw [Lib.splitK, Lib.index_one] at ih
        rw [Lib.splitK, ei]
        by_cases hm : (Lib.indexByte r 10 == -1) = true
        · rw [if_pos hm, h1] at ih
          rw [if_pos hm, if_pos (by decide)]
          injection ih with e1 e2
          rw [e1, ← e2]
        · rw [if_neg hm, h1] at ih
          have hm' : ¬ Lib.indexByte r 10 = -1 := fun q => hm (by rw [q]; rfl)
          rw [if_neg hm, if_neg (by simp; omega)]
          obtain ⟨i, hi⟩ : ∃ i : Nat, Lib.indexByte r 10 = (i : Int) := ⟨(Lib.indexByte r 10).toNat, by omega⟩
          rw [hi] at ih ⊢
          have e3 : ((i : Int) + 1).toNat = i + 1 := by omega
          rw [e3]
          simp only [Int.toNat_natCast, Nat.add_zero, List.take_succ_cons, List.length_cons, List.length_nil, Nat.zero_add, List.drop_succ_cons] at ih ⊢
          injection ih with e1 e2
          rw [e1, e2]
theorem split_map (s : ByteArray) : (Lib.splitB ⟨#[10]⟩ 0 (Lib.countB s ⟨#[10]⟩) s).map (·.data.toList) = splitL s.data.toList := by
  rw [Lib.splitB_data]
  have e : Lib.countB s ⟨#[10]⟩ = s.data.toList.count 10 := Lib.count_one 10 s.data.toList
  rw [e]
  exact splitK_eq s.data.toList
def blk (c : UInt8) : Bool := c == 32 || c == 9
theorem blk_eq (c : UInt8) : ([32, 9] : B).contains c = blk c := by
  simp only [List.contains, List.elem, blk]
  cases (c == 32) <;> cases (c == 9) <;> rfl
def trimM (l : B) : B := Lib.trimS l [32, 9]
def idleM (t : B) : Bool := match t with | [] => true | c :: _ => c == 35
def wordM (t : B) : B := t.takeWhile (fun c => !blk c)
def restM (t : B) : B := t.dropWhile (fun c => !blk c)
def wInstall : B := [105, 110, 115, 116, 97, 108, 108]
def wForbid : B := [102, 111, 114, 98, 105, 100]
def wPrefer : B := [112, 114, 101, 102, 101, 114]
def wAvoid : B := [97, 118, 111, 105, 100]
def wishL (b : Bool) (x : List S46) : List S48 := x.map fun r => ⟨b, r⟩
def stepM (t : B) (q : Q) : Q × Int :=
  if restM t = [] then (q, 240)
  else if wordM t = wInstall then ((q.1 ++ (readM true (restM t)).1, q.2.1, q.2.2), (readM true (restM t)).2.1)
  else if wordM t = wForbid then ((q.1, q.2.1 ++ (readM false (restM t)).1.flatten, q.2.2), (readM false (restM t)).2.1)
  else if wordM t = wPrefer then ((q.1, q.2.1, q.2.2 ++ wishL false (readM false (restM t)).1.flatten), (readM false (restM t)).2.1)
  else if wordM t = wAvoid then ((q.1, q.2.1, q.2.2 ++ wishL true (readM false (restM t)).1.flatten), (readM false (restM t)).2.1)
  else (q, 240)
def linesM : List B → Nat → Q → List (List S46) × List S46 × List S48 × Int × Int
  | [], _, q => (q.1, q.2.1, q.2.2, 0, 0)
  | l :: ls, i, q => if idleM (trimM l) = true then linesM ls (i + 1) q else if (stepM (trimM l) q).2 = 0 then linesM ls (i + 1) (stepM (trimM l) q).1 else ([], [], [], (stepM (trimM l) q).2, ((i + 1 : Nat) : Int))
def reqM (l : B) : List (List S46) × List S46 × List S48 × Int × Int := linesM (splitL l) 0 ([], [], [])
theorem dw_le (p : UInt8 → Bool) (l : B) : (l.dropWhile p).length ≤ l.length := (List.dropWhile_sublist _).length_le
theorem trim_le (l : B) : (trimM l).length ≤ l.length := by
  unfold trimM Lib.trimS Lib.trimLeftS Lib.trimRightS
  have h1 := dw_le ([32, 9].contains ·) (l.reverse.dropWhile ([32, 9].contains ·)).reverse
  have h2 := dw_le ([32, 9].contains ·) l.reverse
  rw [List.length_reverse] at h1 h2
  omega
theorem any_blk : ∀ t : B, Lib.indexAny t [32, 9] = if restM t = [] then -1 else ((wordM t).length : Int)
  | [] => rfl
  | c :: r => by
    have ih := any_blk r
    rw [Lib.indexAny, blk_eq, ih]
    unfold restM wordM
    cases hb : blk c with
    | true => simp [hb]
    | false =>
      have e1 : List.dropWhile (fun c => !blk c) (c :: r) = List.dropWhile (fun c => !blk c) r := by rw [List.dropWhile_cons_of_pos]; simp [hb]
      have e2 : List.takeWhile (fun c => !blk c) (c :: r) = c :: List.takeWhile (fun c => !blk c) r := by rw [List.takeWhile_cons_of_pos]; simp [hb]
      rw [e1, e2, if_neg (by decide)]
      by_cases h : List.dropWhile (fun c => !blk c) r = []
      · rw [if_pos h, if_pos h]
        rfl
      · rw [if_neg h, if_neg h, if_neg (by rw [beq_iff_eq]; omega), List.length_cons]
        omega
theorem wd_rest (t : B) : wordM t ++ restM t = t := List.takeWhile_append_dropWhile
theorem rest_le (t : B) : (restM t).length ≤ t.length := dw_le _ _
def szQ (q : Q) : Nat := q.1.length + q.2.1.length + q.2.2.length
theorem step_sz (t : B) (q : Q) : szQ (stepM t q).1 ≤ szQ q + t.length := by
  have hr := rest_le t
  obtain ⟨a1, a2⟩ := readM_bd true (restM t)
  obtain ⟨b1, b2⟩ := readM_bd false (restM t)
  unfold stepM szQ
  split
  · simp
  split
  · simp only [List.length_append]; omega
  split
  · simp only [List.length_append]; omega
  split
  · simp only [List.length_append, wishL, List.length_map]; omega
  split
  · simp only [List.length_append, wishL, List.length_map]; omega
  · simp
theorem pstep_ev (t : ByteArray) (q : Q) (hb : t.size ≤ 1000000000) (hq : szQ q ≤ 1000000000) : Ev (fun k => request_Read.step k t q) (stepM t.data.toList q) := by
  obtain ⟨l, rfl⟩ : ∃ l, t = ofL l := ⟨t.data.toList, (ofL_toL t).symm⟩
  rw [ofL_size] at hb
  have hla := any_blk l
  have hsz : (ofL l).size = l.length := ofL_size l
  have hwr := congrArg List.length (wd_rest l)
  rw [List.length_append] at hwr
  unfold request_Read.step
  simp only [toL_ofL, hla]
  unfold stepM
  by_cases h0 : restM l = []
  · simp only [if_pos h0]
    exact Ev.now _
  · simp only [if_neg h0]
    have e1 : (ofL l).extract 0 ((wordM l).length : Int).toNat = ofL (wordM l) := by
      have := ext_at (ofL l) 0 (wordM l).length
      simp only [at_zero, toL_ofL, Nat.sub_zero, Int.toNat_natCast, Int.toNat_zero, Int.natCast_zero] at this ⊢
      rw [this]
      congr 1
      exact take_tw _ _
    have e2 : (ofL l).extract ((wordM l).length : Int).toNat (ofL l).size = ofL (restM l) := by
      have := ext_at (ofL l) (wordM l).length (ofL l).size
      simp only [Int.toNat_natCast] at this ⊢
      rw [this]
      congr 1
      have e3 : at_ (ofL l) (wordM l).length = restM l := by
        unfold at_
        rw [toL_ofL]
        have h9 := List.drop_left (l₁ := wordM l) (l₂ := restM l)
        rw [wd_rest] at h9
        exact h9
      rw [e3, hsz]
      exact List.take_of_length_le (by omega)
    simp only [e1, e2, if_neg (show ¬ ((wordM l).length : Int) < 0 by omega)]
    have eqv : ∀ m : B, (ofL (wordM l) = ⟨m.toArray⟩) ↔ wordM l = m := by
      intro m
      constructor
      · intro h
        have := congrArg (fun x => x.data.toList) h
        simpa [ofL] using this
      · intro h; rw [h]; rfl
    have i1 := eqv wInstall
    have i2 := eqv wForbid
    have i3 := eqv wPrefer
    have i4 := eqv wAvoid
    have hrl : (ofL (restM l)).size ≤ 3000000000000 := by rw [ofL_size]; omega
    have hR := Read_ev (ofL (restM l)) hrl
    have hF := ReadList_ev (ofL (restM l)) hrl
    rw [toL_ofL] at hR hF
    obtain ⟨p1, hR⟩ : ∃ p1, Ev (fun k => relation_Read.f k (ofL (restM l))) ((readM true (restM l)).1, (readM true (restM l)).2.1, p1) := ⟨_, hR⟩
    obtain ⟨p2, hF⟩ : ∃ p2, Ev (fun k => relation_ReadList.f k (ofL (restM l))) ((readM false (restM l)).1.flatten, (readM false (restM l)).2.1, p2) := ⟨_, hF⟩
    obtain ⟨a1, a2⟩ := readM_bd true (restM l)
    obtain ⟨b1, b2⟩ := readM_bd false (restM l)
    unfold szQ at hq
    have er1 := readM_err true (restM l)
    have er2 := readM_err false (restM l)
    have c1 : (ofL (wordM l) = ⟨#[105, 110, 115, 116, 97, 108, 108]⟩) ↔ wordM l = wInstall := i1
    have c2 : (ofL (wordM l) = ⟨#[102, 111, 114, 98, 105, 100]⟩) ↔ wordM l = wForbid := i2
    have c3 : (ofL (wordM l) = ⟨#[112, 114, 101, 102, 101, 114]⟩) ↔ wordM l = wPrefer := i3
    have c4 : (ofL (wordM l) = ⟨#[97, 118, 111, 105, 100]⟩) ↔ wordM l = wAvoid := i4
    simp only [c1, c2, c3, c4]
    by_cases k1 : wordM l = wInstall
    · simp only [if_pos k1]
      refine Ev.bind hR ?_
      by_cases h : (readM true (restM l)).2.1 = 0
      · simp only [if_pos h, h]
        simp only [if_pos (show (q.1.length + (readM true (restM l)).1.length) * 24 ≤ 140737488355328 by omega)]
        exact Ev.now _
      · simp only [if_neg h]
        rw [er1 h, List.append_nil]
        exact Ev.now _
    simp only [if_neg k1]
    by_cases k2 : wordM l = wForbid
    · simp only [if_pos k2]
      refine Ev.bind hF ?_
      by_cases h : (readM false (restM l)).2.1 = 0
      · simp only [if_pos h, h]
        simp only [if_pos (show (q.2.1.length + (readM false (restM l)).1.flatten.length) * 40 ≤ 140737488355328 by omega)]
        exact Ev.now _
      · simp only [if_neg h]
        rw [er2 h, List.flatten_nil, List.append_nil]
        exact Ev.now _
    simp only [if_neg k2]
    by_cases k3 : wordM l = wPrefer
    · simp only [if_pos k3]
      refine Ev.bind hF ?_
      by_cases h : (readM false (restM l)).2.1 = 0
      · simp only [if_pos h, h]
        simp only [if_pos (show (q.2.2.length + (readM false (restM l)).1.flatten.length) * 48 ≤ 140737488355328 by omega)]
        exact Ev.now _
      · simp only [if_neg h]
        rw [er2 h, List.flatten_nil]
        unfold wishL
        rw [List.map_nil, List.append_nil]
        exact Ev.now _
    simp only [if_neg k3]
    by_cases k4 : wordM l = wAvoid
    · simp only [if_pos k4]
      refine Ev.bind hF ?_
      by_cases h : (readM false (restM l)).2.1 = 0
      · simp only [if_pos h, h]
        simp only [if_pos (show (q.2.2.length + (readM false (restM l)).1.flatten.length) * 48 ≤ 140737488355328 by omega)]
        exact Ev.now _
      · simp only [if_neg h]
        rw [er2 h, List.flatten_nil]
        unfold wishL
        rw [List.map_nil, List.append_nil]
        exact Ev.now _
    simp only [if_neg k4]
    exact Ev.now _
theorem idle_eq (t : ByteArray) : request_Read.idle t = idleM t.data.toList := by
  unfold request_Read.idle idleM
  cases t.data.toList <;> rfl
theorem ptrim (l : ByteArray) : request_Read.trim l = ofL (trimM l.data.toList) := rfl
theorem plines_ev : ∀ (ls : List ByteArray) (i : Nat) (q : Q), szQ q + ((ls.map (·.size)).sum) ≤ 1000000000 → Ev (fun k => request_Read.lines k ls i q) (linesM (ls.map (·.data.toList)) i q)
  | [], i, q, _ => Ev.now _
  | l :: ls, i, q, h => by
    rw [List.map_cons, List.sum_cons] at h
    have ht := trim_le l.data.toList
    have hl : l.data.toList.length = l.size := by simp
    have hz : (request_Read.trim l).size = (trimM l.data.toList).length := by rw [ptrim, ofL_size]
    simp only [request_Read.lines, List.map_cons, linesM]
    simp only [if_pos (show l.size < 4294967281 ∧ (request_Read.trim l).size < 4294967281 by rw [hz]; omega)]
    have hid : request_Read.idle (request_Read.trim l) = idleM (trimM l.data.toList) := by rw [idle_eq, ptrim, toL_ofL]
    rw [hid]
    by_cases hi : idleM (trimM l.data.toList) = true
    · simp only [if_pos hi]
      exact plines_ev ls (i + 1) q (by omega)
    · simp only [if_neg hi]
      have hs := pstep_ev (request_Read.trim l) q (by omega) (by omega)
      rw [ptrim, toL_ofL] at hs
      have hsz := step_sz (trimM l.data.toList) q
      refine Ev.bind hs ?_
      by_cases he : (stepM (trimM l.data.toList) q).2 = 0
      · simp only [if_pos he]
        exact plines_ev ls (i + 1) _ (by omega)
      · simp only [if_neg he]
        exact Ev.now _
theorem split_sum : ∀ l : B, ((splitL l).map List.length).sum ≤ l.length
  | [] => by simp [splitL]
  | c :: r => by
    have ih := split_sum r
    by_cases hc : c = 10
    · rw [splitL, if_pos hc]
      simp only [List.map_cons, List.length_nil, List.sum_cons, List.length_cons]
      omega
    · obtain ⟨x, xs, h1, h2⟩ := splitL_cons c r hc
      rw [h1] at ih
      rw [h2]
      simp only [List.map_cons, List.sum_cons, List.length_cons] at ih ⊢
      omega
theorem Req_ev (s : ByteArray) (hb : s.size ≤ 1000000000) : Ev (fun k => request_Read.f k s) (reqM s.data.toList) := by
  unfold request_Read.f reqM
  simp only [if_pos (show s.size < 4294967281 by omega)]
  rw [← split_map s]
  refine plines_ev _ 0 ([], [], []) ?_
  have h1 := split_sum s.data.toList
  rw [← split_map s, List.map_map] at h1
  have h2 : s.data.toList.length = s.size := by simp
  have h3 : (List.length ∘ fun x : ByteArray => x.data.toList) = (·.size) := by
    funext x
    show x.data.toList.length = x.size
    simp
  rw [h3] at h1
  simp only [szQ, List.length_nil]
  omega
end Go.Proofs.YtmocooihkobdjaaDoor.Model
end
section
set_option linter.unusedVariables false
set_option linter.unusedSimpArgs false
namespace Go.Proofs.YtmocooihkobdjaaDoor.Ver
open Go.RowKit Go.Proofs.YtmocooihkobdjaaDoor.Q Go.Proofs.YtmocooihkobdjaaDoorW.PrintWords Go.Proofs.YtmocooihkobdjaaDoorW.PrintLast
theorem lastR_l (s : ByteArray) (c : Int) (hs : s.size ≤ 140737488351232) : ∀ n : Nat, n ≤ s.size → Ev (fun k => depotref20_last.l0 k s c (wrap64 ((n : Int) - 1))) (lastN s c n) := by
  intro n
  induction n with
  | zero =>
    intro _
    refine Ev.step (f := fun _ => some (-1)) (fun k => ?_) (Ev.now _)
    have e : wrap64 (((0 : Nat) : Int) - 1) = -1 := wrap_id (by omega) (by omega)
    simp only [depotref20_last.l0]
    rw [e, if_neg (by omega)]
  | succ n ih =>
    intro hn
    have e : wrap64 (((n + 1 : Nat) : Int) - 1) = n := by rw [wrap_id (by omega) (by omega)]; omega
    by_cases hb : bt s n = c
    · refine Ev.step (f := fun _ => some (n : Int)) (fun k => ?_) ?_
      · simp only [depotref20_last.l0]
        rw [e, if_pos (by omega), if_pos (by omega), if_pos (by omega), if_pos hb]
      · have : lastN s c (n + 1) = n := by unfold lastN; rw [if_pos hb]
        rw [this]; exact Ev.now _
    · refine Ev.step (f := fun k => depotref20_last.l0 k s c (wrap64 ((n : Int) - 1))) (fun k => ?_) ?_
      · simp only [depotref20_last.l0]
        rw [e, if_pos (by omega), if_pos (by omega), if_pos (by omega), if_neg hb]
      · have : lastN s c (n + 1) = lastN s c n := by conv => lhs; unfold lastN; rw [if_neg hb]
        rw [this]; exact ih (by omega)
theorem lastR_ev (s : ByteArray) (c : Int) (hs : s.size ≤ 140737488351232) : Ev (fun k => depotref20_last.f k s c) (lastN s c s.size) := by
  unfold depotref20_last.f
  exact lastR_l s c hs s.size (Nat.le_refl _)
def shift (i : Nat) (r : Int) : Int := if r = -1 then -1 else r + i
theorem first_l (s : ByteArray) (c : UInt8) (hs : s.size ≤ 140737488351232) : ∀ (d i : Nat), i + d = s.size → Ev (fun k => depotref20_first.l0 k s (c.toNat : Int) (i : Int)) (shift i (Lib.indexByte (s.data.toList.drop i) c)) := by
  intro d
  induction d with
  | zero =>
    intro i hi
    have e : s.data.toList.drop i = [] := by
      apply List.drop_eq_nil_of_le
      simp; omega
    rw [e]
    refine Ev.step (f := fun _ => some (-1)) (fun k => ?_) (Ev.now _)
    simp only [depotref20_first.l0]
    rw [if_neg (by omega)]
  | succ d ih =>
    intro i hi
    have hlt : i < s.size := by omega
    have hb := bt_eq s i hlt
    rw [drop_cons s i hlt]
    by_cases hc : s[i]'hlt = c
    · refine Ev.step (f := fun _ => some (i : Int)) (fun k => ?_) ?_
      · simp only [depotref20_first.l0]
        rw [if_pos (by omega), if_pos (by omega), if_pos (by rw [hb, hc])]
      · have : shift i (Lib.indexByte (s[i]'hlt :: s.data.toList.drop (i + 1)) c) = i := by simp [shift, Lib.indexByte, hc]
        rw [this]; exact Ev.now _
    · refine Ev.step (f := fun k => depotref20_first.l0 k s (c.toNat : Int) ((i + 1 : Nat) : Int)) (fun k => ?_) ?_
      · simp only [depotref20_first.l0]
        have hne : ¬ bt s (i : Int) = (c.toNat : Int) := by
          rw [hb]
          intro h
          exact hc (Lib.byte_eq_of_toNat h)
        rw [if_pos (by omega), if_pos (by omega), if_neg hne]
        have e : wrap64 ((i : Int) + 1) = ((i + 1 : Nat) : Int) := by rw [wrap_id (by omega) (by omega)]; omega
        rw [e]
      · have h2 := ih (i + 1) (by omega)
        have : shift i (Lib.indexByte (s[i]'hlt :: s.data.toList.drop (i + 1)) c) = shift (i + 1) (Lib.indexByte (s.data.toList.drop (i + 1)) c) := by
          have hge := (idx_bd (s.data.toList.drop (i + 1)) c).1
          unfold shift
          rw [Lib.indexByte]
          have hf : (s[i]'hlt == c) = false := by simpa using hc
          rw [hf]
          simp only [Bool.false_eq_true, if_false, beq_iff_eq]
          by_cases h1 : Lib.indexByte (s.data.toList.drop (i + 1)) c = -1
          · rw [if_pos h1, if_pos rfl, if_pos h1]
          · rw [if_neg h1, if_neg (by omega), if_neg h1]; omega
        rw [this]; exact h2
theorem first_ev (s : ByteArray) (c : UInt8) (hs : s.size ≤ 140737488351232) : Ev (fun k => depotref20_first.f k s (c.toNat : Int)) (Lib.indexByte s.data.toList c) := by
  have h := first_l s c hs s.size 0 (by omega)
  have e : shift 0 (Lib.indexByte (s.data.toList.drop 0) c) = Lib.indexByte s.data.toList c := by
    unfold shift
    rw [List.drop_zero]
    split <;> omega
  rw [e] at h
  unfold depotref20_first.f
  exact h
theorem refparted_ev (s : ByteArray) (hs : s.size ≤ 140737488351232) : Ev (fun k => depotref20_parted.f k s) (epochS s, upS s, revS s, colonS s, minusS s) := by
  have hb := behind_le s
  unfold depotref20_parted.f
  refine Ev.bind (first_ev s 58 hs) ?_
  change Ev (fun k => (depotref20_last.f k (behindS s) 45).bind _) _
  refine Ev.bind (lastR_ev (behindS s) 45 (by omega)) ?_
  have h1 := colon_bd s
  have h2 := minus_bd s
  rw [if_pos ⟨h1, h2, by omega, by change ((behindS s).size : Int) ≤ _; omega⟩]
  exact Ev.now _
end Go.Proofs.YtmocooihkobdjaaDoor.Ver
end
section
set_option linter.unusedVariables false
set_option linter.unusedSimpArgs false
namespace Go.Proofs.YtmocooihkobdjaaDoor.Ver
open Go.RowKit Go.Proofs.YtmocooihkobdjaaDoor.Q Go.Proofs.YtmocooihkobdjaaDoorW.PrintWords Go.Proofs.YtmocooihkobdjaaDoorW.PrintLast
def allFrom (p : Int → Bool) (s : ByteArray) : Nat → Nat → Bool
  | 0, _ => true
  | d + 1, i => p (bt s i) && allFrom p s d (i + 1)
theorem allFrom_iff (p : Int → Bool) (s : ByteArray) : ∀ d i, allFrom p s d i = true ↔ ∀ j, i ≤ j → j < i + d → p (bt s j) = true := by
  intro d
  induction d with
  | zero =>
    intro i
    exact ⟨fun _ j h1 h2 => by omega, fun _ => rfl⟩
  | succ d ih =>
    intro i
    rw [allFrom, Bool.and_eq_true, ih (i + 1)]
    constructor
    · rintro ⟨h0, h1⟩ j hj1 hj2
      by_cases e : j = i
      · subst e; exact h0
      · exact h1 j (by omega) (by omega)
    · intro h
      exact ⟨h i (Nat.le_refl _) (by omega), fun j h1 h2 => h j (by omega) (by omega)⟩
theorem allFrom_runes (p : Int → Bool) (s : ByteArray) (hp : ∀ c : Int, 128 ≤ c → p c = false) : runesAll (fun c : Nat => p (c : Int)) s s.size 0 = allFrom p s s.size 0 := by
  rw [Bool.eq_iff_iff, runesAll_bytes _ (fun c h => hp _ (by omega)) s s.size 0 (by omega), allFrom_iff]
  constructor
  · intro h j _ hj
    have hj' : j < s.size := by omega
    rw [bt_eq s j hj']
    exact h j hj' (Nat.zero_le _)
  · intro h j hj _
    have := h j (Nat.zero_le _) (by omega)
    rwa [bt_eq s j hj] at this
def refUp (colon : Bool) (c : Int) : Bool := ltr c || (dgt c || (decide (c = 46) || (decide (c = 43) || (decide (c = 45) || (decide (c = 126) || (decide (c = 58) && colon))))))
def refRev (c : Int) : Bool := ltr c || (dgt c || (decide (c = 46) || (decide (c = 43) || decide (c = 126))))
theorem dgt_high (c : Int) (h : 128 ≤ c) : dgt c = false := by unfold dgt; exact decide_eq_false (by omega)
theorem ltr_high (c : Int) (h : 128 ≤ c) : ltr c = false := by
  unfold ltr
  rw [decide_eq_false (by omega), decide_eq_false (by omega)]
  rfl
theorem hasR_none (c : Int) : hasR emptyB c = false := rfl
theorem hasR_four (c : Int) : hasR ⟨#[46, 43, 45, 126]⟩ c = (decide (c = 46) || (decide (c = 43) || (decide (c = 45) || decide (c = 126)))) := by
  have h : hasR ⟨#[46, 43, 45, 126]⟩ c = !(decide (((46 : Nat) : Int) ≠ c) && (decide (((43 : Nat) : Int) ≠ c) && (decide (((45 : Nat) : Int) ≠ c) && (decide (((126 : Nat) : Int) ≠ c) && true)))) := rfl
  rw [h, Bool.eq_iff_iff]
  simp
  omega
theorem hasR_five (c : Int) : hasR ⟨#[46, 43, 45, 126, 58]⟩ c = (decide (c = 46) || (decide (c = 43) || (decide (c = 45) || (decide (c = 126) || decide (c = 58))))) := by
  have h : hasR ⟨#[46, 43, 45, 126, 58]⟩ c = !(decide (((46 : Nat) : Int) ≠ c) && (decide (((43 : Nat) : Int) ≠ c) && (decide (((45 : Nat) : Int) ≠ c) && (decide (((126 : Nat) : Int) ≠ c) && (decide (((58 : Nat) : Int) ≠ c) && true))))) := rfl
  rw [h, Bool.eq_iff_iff]
  simp
  omega
theorem hasR_three (c : Int) : hasR ⟨#[43, 46, 126]⟩ c = (decide (c = 43) || (decide (c = 46) || decide (c = 126))) := by
  have h : hasR ⟨#[43, 46, 126]⟩ c = !(decide (((43 : Nat) : Int) ≠ c) && (decide (((46 : Nat) : Int) ≠ c) && (decide (((126 : Nat) : Int) ≠ c) && true))) := rfl
  rw [h, Bool.eq_iff_iff]
  simp
  omega
theorem made_epoch : madeP false emptyB = fun c : Nat => dgt (c : Int) := by
  funext c
  unfold madeP
  rw [hasR_none]
  simp
theorem made_up (colon : Bool) : madeP true (othersOf colon) = fun c : Nat => refUp colon (c : Int) := by
  funext c
  unfold madeP refUp othersOf
  cases colon
  · simp only [Bool.false_eq_true, if_false]
    rw [hasR_four, Bool.eq_iff_iff]
    simp
    constructor
    · rintro ((h | h) | ⟨_, h⟩)
      · exact .inr (.inl h)
      · exact .inl h
      · exact .inr (.inr (by omega))
    · rintro (h | h | h)
      · exact .inl (.inr h)
      · exact .inl (.inl h)
      · exact .inr ⟨by omega, by omega⟩
  · simp only [if_true]
    rw [hasR_five, Bool.eq_iff_iff]
    simp
    constructor
    · rintro ((h | h) | ⟨_, h⟩)
      · exact .inr (.inl h)
      · exact .inl h
      · exact .inr (.inr (by omega))
    · rintro (h | h | h)
      · exact .inl (.inr h)
      · exact .inl (.inl h)
      · exact .inr ⟨by omega, by omega⟩
theorem made_rev : madeP true ⟨#[43, 46, 126]⟩ = fun c : Nat => refRev (c : Int) := by
  funext c
  unfold madeP refRev
  rw [hasR_three, Bool.eq_iff_iff]
  simp
  constructor
  · rintro ((h | h) | ⟨_, h⟩)
    · exact .inr (.inl h)
    · exact .inl h
    · exact .inr (.inr (by omega))
  · rintro (h | h | h)
    · exact .inl (.inr h)
    · exact .inl (.inl h)
    · exact .inr ⟨by omega, by omega⟩
theorem refUp_high (b : Bool) (c : Int) (h : 128 ≤ c) : refUp b c = false := by
  unfold refUp
  rw [dgt_high c h, ltr_high c h, decide_eq_false (by omega), decide_eq_false (by omega), decide_eq_false (by omega), decide_eq_false (by omega), decide_eq_false (by omega)]
  rfl
theorem refRev_high (c : Int) (h : 128 ≤ c) : refRev c = false := by
  unfold refRev
  rw [dgt_high c h, ltr_high c h, decide_eq_false (by omega), decide_eq_false (by omega), decide_eq_false (by omega)]
  rfl
theorem okS_eq (s : ByteArray) : okS s = (ok1 (colonS s) (minusS s) (epochS s) (upS s) (revS s) && (allFrom dgt (epochS s) (epochS s).size 0 && (allFrom (refUp (colonS s)) (upS s) (upS s).size 0 && allFrom refRev (revS s) (revS s).size 0))) := by
  unfold okS fin
  simp only
  rw [made_epoch, made_up, made_rev, allFrom_runes dgt _ dgt_high, allFrom_runes (refUp _) _ (refUp_high _), allFrom_runes refRev _ refRev_high]
theorem sub_le (s : ByteArray) (i : Int) : (upR s i).size ≤ s.size ∧ (revR s i).size ≤ s.size ∧ (epochR s i).size ≤ s.size := by
  unfold upR revR epochR
  refine ⟨?_, ?_, ?_⟩
  all_goals
    split
    · simp; try omega
    · first | exact Nat.le_refl _ | exact Nat.zero_le _
theorem empty_of (s : ByteArray) : s.toList = [] ↔ s.size = 0 := by
  rw [Lib.toList_data]
  constructor
  · intro h
    have : s.data.toList.length = 0 := by rw [h]; rfl
    simpa using this
  · intro h
    exact List.eq_nil_of_length_eq_zero (by simpa using h)
end Go.Proofs.YtmocooihkobdjaaDoor.Ver
end
section
set_option linter.unusedVariables false
set_option linter.unusedSimpArgs false
namespace Go.Proofs.YtmocooihkobdjaaDoor.Ver
open Go.RowKit Go.Proofs.YtmocooihkobdjaaDoor.Q Go.Proofs.YtmocooihkobdjaaDoorW.PrintWords Go.Proofs.YtmocooihkobdjaaDoorW.PrintLast
theorem letter_f (c : Int) : depotref20_letter.f c = some (ltr c) := ltr_f c
theorem digit_f (c : Int) : depotref20_digit.f c = some (dgt c) := dgt_f c
theorem ref_l2 (e u r : ByteArray) (b1 b2 : Bool) (hs : r.size ≤ 140737488351232) : ∀ d i, i + d = r.size → Ev (fun k => depotref20_Legal.l2 k (i : Int) e u r b1 b2) (allFrom refRev r d i) := by
  intro d
  induction d with
  | zero =>
    intro i hi
    refine Ev.step (f := fun _ => some true) (fun k => ?_) (Ev.now _)
    simp only [depotref20_Legal.l2]
    rw [if_neg (by omega)]
  | succ d ih =>
    intro i hi
    have ew : wrap64 ((i : Int) + 1) = ((i + 1 : Nat) : Int) := by rw [wrap_id (by omega) (by omega)]; omega
    have hstep : ∀ k, depotref20_Legal.l2 (k + 1) (i : Int) e u r b1 b2 = if refRev (bt r i) = true then depotref20_Legal.l2 k ((i + 1 : Nat) : Int) e u r b1 b2 else some false := by
      intro k
      simp only [depotref20_Legal.l2]
      rw [if_pos (by omega), if_pos (by omega), letter_f, Option.bind_some, digit_f, Option.bind_some, ew]
      unfold refRev
      cases ltr (bt r i) <;> cases dgt (bt r i) <;> simp
      repeat' split
      all_goals simp_all
    refine Ev.step (f := fun k => if refRev (bt r i) = true then depotref20_Legal.l2 k ((i + 1 : Nat) : Int) e u r b1 b2 else some false) hstep ?_
    rw [allFrom]
    by_cases h : refRev (bt r i) = true
    · simp only [h, Bool.true_and]
      exact ih (i + 1) (by omega)
    · simp only [if_neg h]
      rw [Bool.not_eq_true] at h
      rw [h]
      exact Ev.now _
theorem ref_l1 (e u r : ByteArray) (b1 b2 : Bool) (hr : r.size ≤ 140737488351232) (hs : u.size ≤ 140737488351232) : ∀ d i, i + d = u.size → Ev (fun k => depotref20_Legal.l1 k (i : Int) e u r b1 b2) (allFrom (refUp b1) u d i && allFrom refRev r r.size 0) := by
  intro d
  induction d with
  | zero =>
    intro i hi
    refine Ev.step (f := fun k => depotref20_Legal.l2 k ((0 : Nat) : Int) e u r b1 b2) (fun k => ?_) (ref_l2 e u r b1 b2 hr r.size 0 (by omega))
    simp only [depotref20_Legal.l1]
    rw [if_neg (by omega)]
    rfl
  | succ d ih =>
    intro i hi
    have ew : wrap64 ((i : Int) + 1) = ((i + 1 : Nat) : Int) := by rw [wrap_id (by omega) (by omega)]; omega
    have hstep : ∀ k, depotref20_Legal.l1 (k + 1) (i : Int) e u r b1 b2 = if refUp b1 (bt u i) = true then depotref20_Legal.l1 k ((i + 1 : Nat) : Int) e u r b1 b2 else some false := by
      intro k
      simp only [depotref20_Legal.l1]
      rw [if_pos (by omega), if_pos (by omega), letter_f, Option.bind_some, digit_f, Option.bind_some, ew]
      unfold refUp
      cases ltr (bt u i) <;> cases dgt (bt u i) <;> cases b1 <;> simp
      repeat' split
      all_goals simp_all
    refine Ev.step (f := fun k => if refUp b1 (bt u i) = true then depotref20_Legal.l1 k ((i + 1 : Nat) : Int) e u r b1 b2 else some false) hstep ?_
    rw [allFrom]
    by_cases h : refUp b1 (bt u i) = true
    · simp only [h, Bool.true_and]
      exact ih (i + 1) (by omega)
    · simp only [if_neg h]
      rw [Bool.not_eq_true] at h
      rw [h]
      exact Ev.now _
theorem ref_l0 (e u r : ByteArray) (b1 b2 : Bool) (hr : r.size ≤ 140737488351232) (hs : u.size ≤ 140737488351232) (he : e.size ≤ 140737488351232) : ∀ d i, i + d = e.size → Ev (fun k => depotref20_Legal.l0 k (i : Int) e u r b1 b2) (allFrom dgt e d i && (allFrom (refUp b1) u u.size 0 && allFrom refRev r r.size 0)) := by
  intro d
  induction d with
  | zero =>
    intro i hi
    refine Ev.step (f := fun k => depotref20_Legal.l1 k ((0 : Nat) : Int) e u r b1 b2) (fun k => ?_) (ref_l1 e u r b1 b2 hr hs u.size 0 (by omega))
    simp only [depotref20_Legal.l0]
    rw [if_neg (by omega)]
    rfl
  | succ d ih =>
    intro i hi
    have ew : wrap64 ((i : Int) + 1) = ((i + 1 : Nat) : Int) := by rw [wrap_id (by omega) (by omega)]; omega
    have hstep : ∀ k, depotref20_Legal.l0 (k + 1) (i : Int) e u r b1 b2 = if dgt (bt e i) = true then depotref20_Legal.l0 k ((i + 1 : Nat) : Int) e u r b1 b2 else some false := by
      intro k
      simp only [depotref20_Legal.l0]
      rw [if_pos (by omega), if_pos (by omega), digit_f, Option.bind_some, ew]
    refine Ev.step (f := fun k => if dgt (bt e i) = true then depotref20_Legal.l0 k ((i + 1 : Nat) : Int) e u r b1 b2 else some false) hstep ?_
    rw [allFrom]
    by_cases h : dgt (bt e i) = true
    · simp only [h, Bool.true_and]
      exact ih (i + 1) (by omega)
    · simp only [if_neg h]
      rw [Bool.not_eq_true] at h
      rw [h]
      exact Ev.now _
theorem ref_j0 (e u r : ByteArray) (b1 b2 x : Bool) (hr : r.size ≤ 140737488351232) (hs : u.size ≤ 140737488351232) (he : e.size ≤ 140737488351232) : Ev (fun k => depotref20_Legal.j0 k x e u r b1 b2) (!x && (allFrom dgt e e.size 0 && (allFrom (refUp b1) u u.size 0 && allFrom refRev r r.size 0))) := by
  refine Ev.step (f := fun k => if x = true then some false else depotref20_Legal.l0 k ((0 : Nat) : Int) e u r b1 b2) (fun k => by simp only [depotref20_Legal.j0]; rfl) ?_
  cases x
  · simpa using ref_l0 e u r b1 b2 hr hs he e.size 0 (by omega)
  · exact Ev.now _
theorem legal_ev (s : ByteArray) (hs : s.size ≤ 140737488351232) : Ev (fun k => depotref20_Legal.f k s) (okS s) := by
  have hb := behind_le s
  have h1 := sub_le (behindS s) (minusI s)
  have h2 := (sub_le s (colonI s)).2.2
  have hu : (upS s).size ≤ 140737488351232 := by unfold upS; omega
  have hr : (revS s).size ≤ 140737488351232 := by unfold revS; omega
  have he : (epochS s).size ≤ 140737488351232 := by unfold epochS; omega
  have hj := fun x => ref_j0 (epochS s) (upS s) (revS s) (colonS s) (minusS s) x hr hu he
  rw [okS_eq]
  unfold depotref20_Legal.f
  refine Ev.bind (refparted_ev s hs) ?_
  simp only
  unfold ok1
  have n1 : ¬ (epochS s).toList = [] → (epochS s).toList.isEmpty = false := fun h => by simpa using h
  have n2 : ¬ (upS s).toList = [] → (upS s).toList.isEmpty = false := fun h => by simpa using h
  have n3 : ¬ (revS s).toList = [] → (revS s).toList.isEmpty = false := fun h => by simpa using h
  have hp : ¬ (upS s).toList = [] → (0 : Int) < ((upS s).size : Int) := fun h => by
    have := mt (empty_of (upS s)).2 h
    omega
  generalize (allFrom dgt (epochS s) (epochS s).size 0 && (allFrom (refUp (colonS s)) (upS s) (upS s).size 0 && allFrom refRev (revS s) (revS s).size 0)) = A at hj ⊢
  by_cases e1 : (epochS s).toList = []
  all_goals by_cases e2 : (upS s).toList = []
  all_goals by_cases e3 : (revS s).toList = []
  all_goals cases hc : colonS s
  all_goals cases hm : minusS s
  all_goals rw [hc, hm] at hj
  all_goals first | (have f1 := n1 e1) | (have f1 : (epochS s).toList.isEmpty = true := congrArg List.isEmpty e1)
  all_goals first | (have f2 := n2 e2) | (have f2 : (upS s).toList.isEmpty = true := congrArg List.isEmpty e2)
  all_goals first | (have f3 := n3 e3) | (have f3 : (revS s).toList.isEmpty = true := congrArg List.isEmpty e3)
  all_goals simp only [e1, e2, e3, f1, f2, f3, if_true, if_false, Bool.false_eq_true, Bool.not_false, Bool.not_true, Bool.true_or, Bool.false_or, Bool.true_and, Bool.false_and]
  all_goals first
    | exact hj true
    | (simp only [if_pos (hp e2), digit_f, Option.bind_some]
       have z := hj (!dgt (bt (upS s) 0))
       rw [Bool.not_not] at z
       exact z)
end Go.Proofs.YtmocooihkobdjaaDoor.Ver
end
section
set_option linter.unusedVariables false
set_option linter.unusedSimpArgs false
namespace Go.Proofs.YtmocooihkobdjaaDoor.Read
open Go.RowKit Go.Proofs.YtmocooihkobdjaaDoor.Q Go.Proofs.YtmocooihkobdjaaDoorW.PrintWords Go.Proofs.YtmocooihkobdjaaDoorW.PrintLast Go.Proofs.YtmocooihkobdjaaDoor.Ver
def kindOf (c : Int) : Int := if c = 32 ∨ c = 9 ∨ c = 10 then 1 else if c = 44 ∨ c = 124 ∨ c = 40 ∨ c = 41 then 2 else if c = 60 ∨ c = 61 ∨ c = 62 then 3 else 0
theorem kj1_ev (c : Int) (b : Bool) : Ev (fun k => relation_kind.j1 k c b) (if b = true then 2 else if c = 60 ∨ c = 61 ∨ c = 62 then 3 else 0) := by
  refine Ev.step (f := fun _ => some (if b = true then 2 else if c = 60 ∨ c = 61 ∨ c = 62 then 3 else 0)) (fun k => ?_) (Ev.now _)
  simp only [relation_kind.j1]
  repeat' split
  all_goals simp_all
theorem kj0_ev (c : Int) (b : Bool) : Ev (fun k => relation_kind.j0 k c b) (if b = true then 1 else if c = 44 ∨ c = 124 ∨ c = 40 ∨ c = 41 then 2 else if c = 60 ∨ c = 61 ∨ c = 62 then 3 else 0) := by
  refine Ev.step (f := fun k => if b = true then some 1 else relation_kind.j1 k c (decide (c = 44 ∨ c = 124 ∨ c = 40 ∨ c = 41))) (fun k => ?_) ?_
  · simp only [relation_kind.j0]
    by_cases h1 : c = 44
    · subst h1; simp
    by_cases h2 : c = 124
    · subst h2; simp
    by_cases h3 : c = 40
    · subst h3; simp
    · by_cases h4 : c = 41
      · subst h4; simp
      · have h5 : (c == 41) = false := beq_eq_false_iff_ne.2 h4
        simp [h1, h2, h3, h4, h5]
  · cases b with
    | true => simpa using Ev.now _
    | false =>
      have := kj1_ev c (decide (c = 44 ∨ c = 124 ∨ c = 40 ∨ c = 41))
      simpa using this
theorem kind_ev (c : Int) : Ev (fun k => relation_kind.f k c) (kindOf c) := by
  have h := kj0_ev c (decide (c = 32 ∨ c = 9 ∨ c = 10))
  have e : (fun k => relation_kind.f k c) = fun k => relation_kind.j0 k c (decide (c = 32 ∨ c = 9 ∨ c = 10)) := by
    funext k
    unfold relation_kind.f
    by_cases h1 : c = 32
    · subst h1; simp
    by_cases h2 : c = 9
    · subst h2; simp
    · by_cases h4 : c = 10
      · subst h4; simp
      · have h5 : (c == 10) = false := beq_eq_false_iff_ne.2 h4
        simp [h1, h2, h4, h5]
  rw [e]
  simpa [kindOf] using h
theorem gap_eq (c : Int) : depotref22_gap.f c = some (decide (kindOf c = 1)) := by
  unfold depotref22_gap.f kindOf
  repeat' split
  all_goals simp_all
theorem gaps_ev (s : ByteArray) (hs : s.size ≤ 140737488351232) : ∀ (d i : Nat), i + d = s.size → ∃ e : Nat, i ≤ e ∧ e ≤ s.size ∧ Ev (fun k => relation_reader_gaps.f k s (i : Int)) (s, (e : Int)) ∧ Ev (fun k => depotref22_behind.f k s (i : Int)) (e : Int) := by
  intro d
  unfold relation_reader_gaps.f depotref22_behind.f
  induction d with
  | zero =>
    intro i hi
    refine ⟨i, Nat.le_refl _, by omega, ?_, ?_⟩
    · refine Ev.step (f := fun _ => some (s, (i : Int))) (fun k => ?_) (Ev.now _)
      simp only [relation_reader_gaps.l0]
      rw [if_neg (by omega)]
    · refine Ev.step (f := fun _ => some (i : Int)) (fun k => ?_) (Ev.now _)
      simp only [depotref22_behind.l0]
      rw [if_neg (by omega)]
  | succ d ih =>
    intro i hi
    have ew : wrap64 ((i : Int) + 1) = ((i + 1 : Nat) : Int) := by rw [wrap_id (by omega) (by omega)]; omega
    by_cases hk : kindOf (bt s i) = 1
    · obtain ⟨e, h1, h2, h3, h4⟩ := ih (i + 1) (by omega)
      refine ⟨e, by omega, h2, ?_, ?_⟩
      · refine Ev.step (f := fun k => (relation_kind.f k (bt s i)).bind fun t => if t = 1 then relation_reader_gaps.l0 k s ((i + 1 : Nat) : Int) else some (s, (i : Int))) (fun k => ?_) ?_
        · simp only [relation_reader_gaps.l0]
          rw [if_pos (by omega), if_pos (by omega), ew]
        · refine Ev.bind (kind_ev _) ?_
          simp only [if_pos hk]
          exact h3
      · refine Ev.step (f := fun k => depotref22_behind.l0 k s ((i + 1 : Nat) : Int)) (fun k => ?_) h4
        simp only [depotref22_behind.l0]
        rw [if_pos (by omega), if_pos (by omega), gap_eq, ew]
        simp [hk]
    · refine ⟨i, Nat.le_refl _, by omega, ?_, ?_⟩
      · refine Ev.step (f := fun k => (relation_kind.f k (bt s i)).bind fun t => if t = 1 then relation_reader_gaps.l0 k s ((i + 1 : Nat) : Int) else some (s, (i : Int))) (fun k => ?_) ?_
        · simp only [relation_reader_gaps.l0]
          rw [if_pos (by omega), if_pos (by omega), ew]
        · refine Ev.bind (kind_ev _) ?_
          simp only [if_neg hk]
          exact Ev.now _
      · refine Ev.step (f := fun _ => some (i : Int)) (fun k => ?_) (Ev.now _)
        simp only [depotref22_behind.l0]
        rw [if_pos (by omega), if_pos (by omega), gap_eq]
        simp [hk]
theorem runstop (s : ByteArray) (st i : Nat) (hs : s.size ≤ 140737488351232) (hi : i < s.size) (hst : st ≤ i) (hk : kindOf (bt s i) = 1 ∨ kindOf (bt s i) = 2) :
    Ev (fun k => relation_reader_run.l0 k false (i : Int) s (st : Int)) (s.extract (st : Int).toNat (i : Int).toNat, s, (st : Int)) := by
  refine Ev.step (f := fun k => (relation_kind.f k (bt s i)).bind fun t => if t = 1 then some (s.extract (st : Int).toNat (i : Int).toNat, s, (st : Int)) else if t = 2 then some (s.extract (st : Int).toNat (i : Int).toNat, s, (st : Int)) else relation_reader_run.l0 k false (wrap64 ((i : Int) + 1)) s (st : Int)) (fun k => ?_) ?_
  · simp only [relation_reader_run.l0, if_pos (show (i : Int) < s.size by omega), if_pos (show (0 : Int) ≤ i by omega), if_pos (show (0 : Int) ≤ st by omega), if_pos (show (st : Int) ≤ i by omega), if_pos (show (i : Int) ≤ s.size by omega), Bool.false_eq_true, if_false]
  · refine Ev.bind (kind_ev _) ?_
    rcases hk with hk | hk
    · simp only [if_pos hk]; exact Ev.now _
    · simp only [if_neg (show ¬ kindOf (bt s i) = 1 by omega), if_pos hk]; exact Ev.now _
theorem runstep (s : ByteArray) (st i : Nat) (hs : s.size ≤ 140737488351232) (hi : i < s.size) (hst : st ≤ i) (hk : ¬ (kindOf (bt s i) = 1 ∨ kindOf (bt s i) = 2)) (v : ByteArray × ByteArray × Int)
    (h : Ev (fun k => relation_reader_run.l0 k false ((i + 1 : Nat) : Int) s (st : Int)) v) : Ev (fun k => relation_reader_run.l0 k false (i : Int) s (st : Int)) v := by
  have ew : wrap64 ((i : Int) + 1) = ((i + 1 : Nat) : Int) := by rw [wrap_id (by omega) (by omega)]; omega
  refine Ev.step (f := fun k => (relation_kind.f k (bt s i)).bind fun t => if t = 1 then some (s.extract (st : Int).toNat (i : Int).toNat, s, (st : Int)) else if t = 2 then some (s.extract (st : Int).toNat (i : Int).toNat, s, (st : Int)) else relation_reader_run.l0 k false ((i + 1 : Nat) : Int) s (st : Int)) (fun k => ?_) ?_
  · simp only [relation_reader_run.l0, if_pos (show (i : Int) < s.size by omega), if_pos (show (0 : Int) ≤ i by omega), if_pos (show (0 : Int) ≤ st by omega), if_pos (show (st : Int) ≤ i by omega), if_pos (show (i : Int) ≤ s.size by omega), Bool.false_eq_true, if_false, ew]
  · refine Ev.bind (kind_ev _) ?_
    simp only [if_neg (fun q => hk (.inl q)), if_neg (fun q => hk (.inr q))]
    exact h
theorem signstop (s : ByteArray) (st i : Nat) (hs : s.size ≤ 140737488351232) (hi : i < s.size) (hst : st ≤ i) (hk : ¬ kindOf (bt s i) = 3) :
    Ev (fun k => relation_reader_run.l0 k true (i : Int) s (st : Int)) (s.extract (st : Int).toNat (i : Int).toNat, s, (st : Int)) := by
  refine Ev.step (f := fun k => (relation_kind.f k (bt s i)).bind fun t => if t = 3 then (if t = 1 then some (s.extract (st : Int).toNat (i : Int).toNat, s, (st : Int)) else if t = 2 then some (s.extract (st : Int).toNat (i : Int).toNat, s, (st : Int)) else relation_reader_run.l0 k true (wrap64 ((i : Int) + 1)) s (st : Int)) else some (s.extract (st : Int).toNat (i : Int).toNat, s, (st : Int))) (fun k => ?_) ?_
  · simp only [relation_reader_run.l0, if_pos (show (i : Int) < s.size by omega), if_pos (show (0 : Int) ≤ i by omega), if_pos (show (0 : Int) ≤ st by omega), if_pos (show (st : Int) ≤ i by omega), if_pos (show (i : Int) ≤ s.size by omega), if_true]
  · refine Ev.bind (kind_ev _) ?_
    simp only [if_neg hk]; exact Ev.now _
theorem signstep (s : ByteArray) (st i : Nat) (hs : s.size ≤ 140737488351232) (hi : i < s.size) (hst : st ≤ i) (hk : kindOf (bt s i) = 3) (v : ByteArray × ByteArray × Int)
    (h : Ev (fun k => relation_reader_run.l0 k true ((i + 1 : Nat) : Int) s (st : Int)) v) : Ev (fun k => relation_reader_run.l0 k true (i : Int) s (st : Int)) v := by
  have ew : wrap64 ((i : Int) + 1) = ((i + 1 : Nat) : Int) := by rw [wrap_id (by omega) (by omega)]; omega
  refine Ev.step (f := fun k => (relation_kind.f k (bt s i)).bind fun t => if t = 3 then (if t = 1 then some (s.extract (st : Int).toNat (i : Int).toNat, s, (st : Int)) else if t = 2 then some (s.extract (st : Int).toNat (i : Int).toNat, s, (st : Int)) else relation_reader_run.l0 k true ((i + 1 : Nat) : Int) s (st : Int)) else some (s.extract (st : Int).toNat (i : Int).toNat, s, (st : Int))) (fun k => ?_) ?_
  · simp only [relation_reader_run.l0, if_pos (show (i : Int) < s.size by omega), if_pos (show (0 : Int) ≤ i by omega), if_pos (show (0 : Int) ≤ st by omega), if_pos (show (st : Int) ≤ i by omega), if_pos (show (i : Int) ≤ s.size by omega), if_true, ew]
  · refine Ev.bind (kind_ev _) ?_
    simp only [if_pos hk, if_neg (show ¬ kindOf (bt s i) = 1 by omega), if_neg (show ¬ kindOf (bt s i) = 2 by omega)]
    exact h
theorem ext_size (s : ByteArray) (i e : Nat) (h1 : i ≤ e) (h2 : e ≤ s.size) : (s.extract (i : Int).toNat (e : Int).toNat).size = e - i := by
  simp [ByteArray.size_extract]
  omega
theorem word_ev (s : ByteArray) (st : Nat) (hs : s.size ≤ 140737488351232) : ∀ (d i : Nat), i + d = s.size → st ≤ i → ∃ e : Nat, i ≤ e ∧ e ≤ s.size ∧
    Ev (fun k => relation_reader_run.l0 k false (i : Int) s (st : Int)) (s.extract (st : Int).toNat (e : Int).toNat, s, (st : Int)) ∧ Ev (fun k => depotref22_word.l0 k s (i : Int)) (e : Int) := by
  intro d
  induction d with
  | zero =>
    intro i hi hst
    refine ⟨i, Nat.le_refl _, by omega, ?_, ?_⟩
    · refine Ev.step (f := fun _ => some (s.extract (st : Int).toNat (i : Int).toNat, s, (st : Int))) (fun k => ?_) (Ev.now _)
      simp only [relation_reader_run.l0]
      rw [if_neg (by omega), if_pos (by omega), if_pos (by omega), if_pos (by omega)]
    · refine Ev.step (f := fun _ => some (i : Int)) (fun k => ?_) (Ev.now _)
      simp only [depotref22_word.l0]
      rw [if_neg (by omega)]
  | succ d ih =>
    intro i hi hst
    have ew : wrap64 ((i : Int) + 1) = ((i + 1 : Nat) : Int) := by rw [wrap_id (by omega) (by omega)]; omega
    have hst2 : (st : Int) ≤ (i : Int) := by omega
    by_cases hk : kindOf (bt s i) = 1 ∨ kindOf (bt s i) = 2
    · refine ⟨i, Nat.le_refl _, by omega, ?_, ?_⟩
      · exact runstop s st i hs (by omega) hst hk
      · refine Ev.step (f := fun _ => some (i : Int)) (fun k => ?_) (Ev.now _)
        simp only [depotref22_word.l0]
        rw [if_pos (by omega), if_pos (by omega), gap_eq]
        simp only [Option.bind_some]
        unfold kindOf at hk ⊢
        repeat' split
        all_goals first | rfl | (exfalso; simp_all; done) | (exfalso; simp_all; omega)
    · obtain ⟨e, h1, h2, h3, h4⟩ := ih (i + 1) (by omega) (by omega)
      refine ⟨e, by omega, h2, ?_, ?_⟩
      · exact runstep s st i hs (by omega) hst hk _ h3
      · refine Ev.step (f := fun k => depotref22_word.l0 k s ((i + 1 : Nat) : Int)) (fun k => ?_) h4
        simp only [depotref22_word.l0]
        rw [if_pos (by omega), if_pos (by omega), gap_eq, ew]
        simp only [Option.bind_some]
        unfold kindOf at hk ⊢
        repeat' split
        all_goals first | rfl | (exfalso; simp_all; done) | (exfalso; simp_all; omega)
theorem sign_ev (s : ByteArray) (st : Nat) (hs : s.size ≤ 140737488351232) : ∀ (d i : Nat), i + d = s.size → st ≤ i → ∃ e : Nat, i ≤ e ∧ e ≤ s.size ∧
    Ev (fun k => relation_reader_run.l0 k true (i : Int) s (st : Int)) (s.extract (st : Int).toNat (e : Int).toNat, s, (st : Int)) ∧ Ev (fun k => depotref22_sign.l0 k s (i : Int)) (e : Int) := by
  intro d
  induction d with
  | zero =>
    intro i hi hst
    refine ⟨i, Nat.le_refl _, by omega, ?_, ?_⟩
    · refine Ev.step (f := fun _ => some (s.extract (st : Int).toNat (i : Int).toNat, s, (st : Int))) (fun k => ?_) (Ev.now _)
      simp only [relation_reader_run.l0]
      rw [if_neg (by omega), if_pos (by omega), if_pos (by omega), if_pos (by omega)]
    · refine Ev.step (f := fun _ => some (i : Int)) (fun k => ?_) (Ev.now _)
      simp only [depotref22_sign.l0]
      rw [if_neg (by omega)]
  | succ d ih =>
    intro i hi hst
    have ew : wrap64 ((i : Int) + 1) = ((i + 1 : Nat) : Int) := by rw [wrap_id (by omega) (by omega)]; omega
    by_cases hk : kindOf (bt s i) = 3
    · obtain ⟨e, h1, h2, h3, h4⟩ := ih (i + 1) (by omega) (by omega)
      refine ⟨e, by omega, h2, signstep s st i hs (by omega) hst hk _ h3, ?_⟩
      refine Ev.step (f := fun k => depotref22_sign.l0 k s ((i + 1 : Nat) : Int)) (fun k => ?_) h4
      simp only [depotref22_sign.l0]
      rw [if_pos (by omega), if_pos (by omega), ew]
      unfold kindOf at hk
      repeat' split
      all_goals first | rfl | (exfalso; simp_all; done) | (exfalso; simp_all; omega)
    · refine ⟨i, Nat.le_refl _, by omega, signstop s st i hs (by omega) hst hk, ?_⟩
      refine Ev.step (f := fun _ => some (i : Int)) (fun k => ?_) (Ev.now _)
      simp only [depotref22_sign.l0]
      rw [if_pos (by omega), if_pos (by omega)]
      unfold kindOf at hk
      repeat' split
      all_goals first | rfl | (exfalso; simp_all; done) | (exfalso; simp_all; omega)
theorem names_ev (s : ByteArray) (hs : s.size ≤ 140737488351232) : ∃ b, Ev (fun k => relation_Name.f k s) b ∧ Ev (fun k => depotref22_Name.f k s) b := by
  have key : ∀ (d i : Nat), i + d = s.size → ∃ b, Ev (fun k => relation_Name.l0 k s (i : Int)) (b && decide ((s.size : Int) > 1)) ∧ Ev (fun k => depotref22_Name.l0 k s (i : Int)) b := by
    intro d
    induction d with
    | zero =>
      intro i hi
      refine ⟨true, ?_, ?_⟩
      · refine Ev.step (f := fun _ => some (true && decide ((s.size : Int) > 1))) (fun k => ?_) (Ev.now _)
        simp only [relation_Name.l0]
        rw [if_neg (by omega)]
        rfl
      · refine Ev.step (f := fun _ => some true) (fun k => ?_) (Ev.now _)
        simp only [depotref22_Name.l0]
        rw [if_neg (by omega)]
    | succ d ih =>
      intro i hi
      have ew : wrap64 ((i : Int) + 1) = ((i + 1 : Nat) : Int) := by rw [wrap_id (by omega) (by omega)]; omega
      obtain ⟨b, hp, hr⟩ := ih (i + 1) (by omega)
      let c := bt s i
      let pl : Bool := decide ((c ≥ 97 ∧ c ≤ 122) ∨ (c ≥ 48 ∧ c ≤ 57))
      let go : Bool := pl || (decide (i ≠ 0) && decide (c = 43 ∨ c = 45 ∨ c = 46))
      have ep : ∀ k, relation_Name.l0 (k + 2) s (i : Int) = if go = true then relation_Name.l0 k s ((i + 1 : Nat) : Int) else some false := by
        intro k
        simp only [relation_Name.l0, relation_Name.j1, ew, if_pos (show (i : Int) < s.size by omega), if_pos (show (0 : Int) ≤ i by omega)]
        simp only [go, pl, c]
        repeat' split
        all_goals first | rfl | (exfalso; simp_all; done) | (exfalso; simp_all; omega)
      have er : ∀ k, depotref22_Name.l0 (k + 1) s (i : Int) = if go = true then depotref22_Name.l0 k s ((i + 1 : Nat) : Int) else some false := by
        intro k
        simp only [depotref22_Name.l0, ew, if_pos (show (i : Int) < s.size by omega), if_pos (show (0 : Int) ≤ i by omega)]
        simp only [go, pl, c]
        repeat' split
        all_goals first | rfl | (exfalso; simp_all; done) | (exfalso; simp_all; omega)
      cases hg : go with
      | true =>
        refine ⟨b, ?_, Ev.step (f := fun k => depotref22_Name.l0 k s ((i + 1 : Nat) : Int)) (fun k => by rw [er, if_pos hg]) hr⟩
        refine Ev.step (f := fun k => relation_Name.l0 (k + 1) s (i : Int)) (fun k => rfl) (Ev.step (f := fun k => relation_Name.l0 k s ((i + 1 : Nat) : Int)) (fun k => by rw [ep, if_pos hg]) hp)
      | false =>
        refine ⟨false, ?_, Ev.step (f := fun _ => some false) (fun k => by rw [er, if_neg (by simp [hg])]) (Ev.now _)⟩
        refine Ev.step (f := fun k => relation_Name.l0 (k + 1) s (i : Int)) (fun k => rfl) (Ev.step (f := fun _ => some (false && decide ((s.size : Int) > 1))) (fun k => by rw [ep, if_neg (by simp [hg])]; rfl) (Ev.now _))
  unfold relation_Name.f depotref22_Name.f
  obtain ⟨b, hp, hr⟩ := key s.size 0 (by omega)
  by_cases h2 : (s.size : Int) < 2
  · refine ⟨false, ?_, ?_⟩
    · have e : (b && decide ((s.size : Int) > 1)) = false := by
        rw [decide_eq_false (by omega), Bool.and_false]
      rw [← e]
      exact hp
    · simp only [if_pos h2]; exact Ev.now _
  · refine ⟨b, ?_, ?_⟩
    · have e : (b && decide ((s.size : Int) > 1)) = b := by
        rw [decide_eq_true (by omega), Bool.and_true]
      rw [← e]
      exact hp
    · simp only [if_neg h2]
      exact hr
theorem plegal_ev (s : ByteArray) (hs : s.size ≤ 140737488351232) : Ev (fun k => version_Legal.f k s) (okS s) := by
  unfold version_Legal.f
  exact Ev.bind (parted_ev s hs) (Ev.now _)
theorem sign_step (s : ByteArray) (a b : Nat) (nm : ByteArray) (h1 : a ≤ b) (h2 : b ≤ s.size) (z : Int) (hz0 : 1 ≤ z) (hz5 : z ≤ 5) (v : ByteArray × Int × ByteArray × Int × Int)
    (h : Ev (fun k => depotref22_one.l0 k s (a : Int) (b : Int) (z + 1) nm (opTo (s.extract (a : Int).toNat (b : Int).toNat) z) ⟨#[]⟩) v) :
    Ev (fun k => depotref22_one.l0 k s (a : Int) (b : Int) z nm (opTo (s.extract (a : Int).toNat (b : Int).toNat) (z - 1)) ⟨#[]⟩) v := by
  refine Ev.step (f := fun k => depotref22_one.l0 k s (a : Int) (b : Int) (z + 1) nm (opTo (s.extract (a : Int).toNat (b : Int).toNat) z) ⟨#[]⟩) (fun k => ?_) h
  simp only [depotref22_one.l0, if_pos hz5, if_pos (show (0 : Int) ≤ a by omega), if_pos (show (a : Int) ≤ b by omega), if_pos (show (b : Int) ≤ s.size by omega)]
  generalize s.extract (a : Int).toNat (b : Int).toNat = m
  have hi := opOf_iff m
  have hz : z = 1 ∨ z = 2 ∨ z = 3 ∨ z = 4 ∨ z = 5 := by omega
  have ew : wrap64 (z + 1) = z + 1 := wrap_id (by omega) (by omega)
  rw [ew]
  by_cases he : opOf m = z
  · have ht : opTo m z = z := opTo_hit m z he
    rw [ht]
    rcases hz with rfl | rfl | rfl | rfl | rfl
    · simp [depotref22_Sign.f, hi.1.1 he]
    · simp [depotref22_Sign.f, hi.2.1.1 he]
    · simp [depotref22_Sign.f, hi.2.2.1.1 he]
    · simp [depotref22_Sign.f, hi.2.2.2.1.1 he]
    · simp [depotref22_Sign.f, hi.2.2.2.2.1 he]
  · have ht : opTo m z = opTo m (z - 1) := by
      have := opTo_miss m (z - 1) (by rw [Int.sub_add_cancel]; exact he)
      rwa [Int.sub_add_cancel] at this
    rw [ht]
    rcases hz with rfl | rfl | rfl | rfl | rfl
    · have := mt hi.1.2 he; simp [depotref22_Sign.f, eq_comm, this]
    · have := mt hi.2.1.2 he; simp [depotref22_Sign.f, eq_comm, this]
    · have := mt hi.2.2.1.2 he; simp [depotref22_Sign.f, eq_comm, this]
    · have := mt hi.2.2.2.1.2 he; simp [depotref22_Sign.f, eq_comm, this]
    · have := mt hi.2.2.2.2.2 he; simp [depotref22_Sign.f, eq_comm, this]
theorem signs_ev (s : ByteArray) (a b : Nat) (nm : ByteArray) (h1 : a ≤ b) (h2 : b ≤ s.size) (v : ByteArray × Int × ByteArray × Int × Int)
    (h : Ev (fun k => depotref22_one.l0 k s (a : Int) (b : Int) 6 nm (opOf (s.extract (a : Int).toNat (b : Int).toNat)) ⟨#[]⟩) v) :
    Ev (fun k => depotref22_one.l0 k s (a : Int) (b : Int) 1 nm 0 ⟨#[]⟩) v := by
  rw [← opTo_five] at h
  have h := sign_step s a b nm h1 h2 1 (by omega) (by omega) v (sign_step s a b nm h1 h2 2 (by omega) (by omega) v (sign_step s a b nm h1 h2 3 (by omega) (by omega) v (sign_step s a b nm h1 h2 4 (by omega) (by omega) v (sign_step s a b nm h1 h2 5 (by omega) (by omega) v h))))
  have e := opTo_zero (s.extract (a : Int).toNat (b : Int).toNat)
  rw [show (1 : Int) - 1 = 0 from rfl, e] at h
  exact h
end Go.Proofs.YtmocooihkobdjaaDoor.Read
end
