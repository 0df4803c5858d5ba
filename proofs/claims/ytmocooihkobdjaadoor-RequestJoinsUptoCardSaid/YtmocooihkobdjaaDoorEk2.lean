/- A part of the proof: the texts of this claim, packed by a program of this session (wip/pack.py). -/
import Derived.Test.YtmocooihkobdjaaDoorEk1
section
namespace Go.Proofs.YtmocooihkobdjaaDoor.E
open Go.RowKit Go.Proofs.YtmocooihkobdjaaDoorW.PrintWords Go.Proofs.YtmocooihkobdjaaDoorW.PrintLast Go.Proofs.YtmocooihkobdjaaDoorW.PrintMore
attribute [local go_sem] max2_int min2_int max_two min_two max_three min_three max_four min_four
set_option linter.unusedVariables false
set_option linter.unusedSimpArgs false
def request_Join.f (k : Nat) (l0_0 : List (List S46)) (l0_1 : List S46) (l0_2 : List S48) (l1_0 : List (List S46)) (l1_1 : List S46) (l1_2 : List S48) : Option ((List (List S46)) × (List S46) × (List S48) × Int) :=
  (request_Formed.f k l0_0 l0_1 l0_2).bind fun t => if t = true then (request_Formed.f k l1_0 l1_1 l1_2).bind fun u => if u = true then (if l0_0.length + l1_0.length < 5864062014805 ∧ l0_1.length + l1_1.length < 3518437208883 ∧ l0_2.length + l1_2.length < 2932031007402 ∧ (∀ o ∈ l0_0 ++ l1_0, o.length < 3518437208883) then some (l0_0 ++ l1_0, l0_1 ++ l1_1, l0_2 ++ l1_2, 0) else none) else some ([], [], [], 1) else some ([], [], [], 1)
theorem request_Join.mono : ∀ a0 a1 a2 a3 a4 a5 k, LeO (request_Join.f k a0 a1 a2 a3 a4 a5) (request_Join.f (k + 1) a0 a1 a2 a3 a4 a5) := by
  intro a0 a1 a2 a3 a4 a5 k
  unfold request_Join.f
  refine LeO.bind (request_Formed.mono _ _ _ _) (fun t => ?_)
  refine LeO.ite ?_ (LeO.refl _)
  refine LeO.bind (request_Formed.mono _ _ _ _) (fun u => ?_)
  exact LeO.refl _
theorem request_Join.info23 : (Tryd.prog.info? 23).map (fun i => (i.zero, i.size, i.bytes)) = some (some (.slice none 0 0), 1, 24) := by kernel_rfl
theorem request_Join.info46 : (Tryd.prog.info? 46).map (fun i => (i.zero, i.size, i.bytes)) = some (some (.agg #[(.string ⟨#[]⟩), (.int .i64 0), (.string ⟨#[]⟩)]), 3, 40) := by kernel_rfl
theorem request_Join.info48 : (Tryd.prog.info? 48).map (fun i => (i.zero, i.size, i.bytes)) = some (some (.agg #[(.bool false), (.string ⟨#[]⟩), (.int .i64 0), (.string ⟨#[]⟩)]), 4, 48) := by kernel_rfl
def request_Join.St (base go : Nat) (v0 v1 v2 : Value) (L : List (List S46)) (F : List S46) (W : List S48) (w : World) : Prop :=
  w.heap[go]? = some (.cells #[v0, v1, v2] 26 (0, 0)) ∧ Kd.N (Kd.slice 46 k46) 23 w base (fun k => go < k ∧ some k ≠ v1.ownBlock ∧ some k ≠ v2.ownBlock) v0 L ∧ Kd.R k46 46 w base (fun k => go < k) v1 F ∧ Kd.R k48 48 w base (fun k => go < k) v2 W
section
variable {base go : Nat} {v0 v1 v2 : Value} {L : List (List S46)} {F : List S46} {W : List S48} {w w1 : World}
theorem request_Join.St_below (h : request_Join.St base go v0 v1 v2 L F W w) (hb : Below w.heap.size w w1) : request_Join.St base go v0 v1 v2 L F W w1 :=
  ⟨blk_below h.1 hb, Kd.N_below h.2.1 hb, Kd.R_below h.2.2.1 hb, Kd.R_below h.2.2.2 hb⟩
theorem request_Join.St_F {u : Value} {F' : List S46} (h : request_Join.St base go v0 v1 v2 L F W w) (ho : Kd.R k46 46 w1 base (fun k => go < k) u F') (hg : w.grownBy w1 v1.ownBlock) (hat : u.ownBlock = v1.ownBlock ∨ ∃ b, u.ownBlock = some b ∧ w.heap.size ≤ b) : request_Join.St base go v0 u v2 L F' W (w1.setCell ⟨go, 1, none⟩ u) := by
  obtain ⟨hb, hN, hF, hW⟩ := h
  have hb1 := blk_grown hb hg (Kd.R_ne hF hb (by decide))
  have hN1 := Kd.N_after (Kd.N_mono hN (ok' := fun k => (go < k ∧ some k ≠ v2.ownBlock) ∧ some k ≠ v1.ownBlock) (fun k hk => ⟨⟨hk.1, hk.2.2⟩, hk.2.1⟩)) hg hat
  have hW1 := Kd.R_over' hW (Kd.R_typed hF) (by decide) hg
  exact ⟨blk_put hb1 1 _ rfl, Kd.N_mono (Kd.N_far (p := ⟨go, 1, none⟩) hN1 (fun k hk => Nat.ne_of_gt hk.1.1) u) (fun k hk => ⟨hk.1.1, hk.2, hk.1.2⟩),
    Kd.R_far (p := ⟨go, 1, none⟩) ho (fun k hk => Nat.ne_of_gt hk) u, Kd.R_far (p := ⟨go, 1, none⟩) hW1 (fun k hk => Nat.ne_of_gt hk) u⟩
theorem request_Join.St_W {u : Value} {W' : List S48} (h : request_Join.St base go v0 v1 v2 L F W w) (ho : Kd.R k48 48 w1 base (fun k => go < k) u W') (hg : w.grownBy w1 v2.ownBlock) (hat : u.ownBlock = v2.ownBlock ∨ ∃ b, u.ownBlock = some b ∧ w.heap.size ≤ b) : request_Join.St base go v0 v1 u L F W' (w1.setCell ⟨go, 2, none⟩ u) := by
  obtain ⟨hb, hN, hF, hW⟩ := h
  have hb1 := blk_grown hb hg (Kd.R_ne hW hb (by decide))
  have hN1 := Kd.N_after (Kd.N_mono hN (ok' := fun k => (go < k ∧ some k ≠ v1.ownBlock) ∧ some k ≠ v2.ownBlock) (fun k hk => ⟨⟨hk.1, hk.2.1⟩, hk.2.2⟩)) hg hat
  have hF1 := Kd.R_over' hF (Kd.R_typed hW) (by decide) hg
  exact ⟨blk_put hb1 2 _ rfl, Kd.N_mono (Kd.N_far (p := ⟨go, 2, none⟩) hN1 (fun k hk => Nat.ne_of_gt hk.1.1) u) (fun k hk => ⟨hk.1.1, hk.1.2, hk.2⟩),
    Kd.R_far (p := ⟨go, 2, none⟩) hF1 (fun k hk => Nat.ne_of_gt hk) u, Kd.R_far (p := ⟨go, 2, none⟩) ho (fun k hk => Nat.ne_of_gt hk) u⟩
theorem request_Join.St_L {u : Value} {L' : List (List S46)} (h : request_Join.St base go v0 v1 v2 L F W w) (ho : Kd.N (Kd.slice 46 k46) 23 w1 base (fun k => go < k ∧ some k ≠ v1.ownBlock ∧ some k ≠ v2.ownBlock) u L') (hg : w.grownBy w1 v0.ownBlock) : request_Join.St base go u v1 v2 L' F W (w1.setCell ⟨go, 0, none⟩ u) := by
  obtain ⟨hb, hN, hF, hW⟩ := h
  have hb1 := blk_grown hb hg (Kd.N_ne hN hb (by decide))
  have hF1 := Kd.R_over' hF (Kd.N_typed hN) (by decide) hg
  have hW1 := Kd.R_over' hW (Kd.N_typed hN) (by decide) hg
  exact ⟨blk_put hb1 0 _ rfl, Kd.N_far (p := ⟨go, 0, none⟩) ho (fun k hk => Nat.ne_of_gt hk.1) u,
    Kd.R_far (p := ⟨go, 0, none⟩) hF1 (fun k hk => Nat.ne_of_gt hk) u, Kd.R_far (p := ⟨go, 0, none⟩) hW1 (fun k hk => Nat.ne_of_gt hk) u⟩
theorem request_Join.three {g : Nat} {a b c u0 u1 u2 : Value} (h : w.heap[g]? = some (.cells #[a, b, c] 26 (0, 0))) : (((w.setCell ⟨g, 0, none⟩ u0).setCell ⟨g, 1, none⟩ u1).setCell ⟨g, 2, none⟩ u2).heap[g]? = some (.cells #[u0, u1, u2] 26 (0, 0)) :=
  blk_put (blk_put (blk_put h 0 _ rfl) 1 _ rfl) 2 _ rfl
theorem request_Join.fresh_ok (h : request_Join.St base go v0 v1 v2 L F W w) (k : Nat) (hk : w.heap.size ≤ k) : (go < k ∧ some k ≠ v1.ownBlock ∧ some k ≠ v2.ownBlock) ∧ some k ≠ v0.ownBlock :=
  ⟨⟨Nat.lt_of_lt_of_le (blk_lt h.1) hk, fun e => absurd (Kd.R_lt h.2.2.1 k e.symm) (Nat.not_lt.2 hk), fun e => absurd (Kd.R_lt h.2.2.2 k e.symm) (Nat.not_lt.2 hk)⟩, fun e => absurd (Kd.N_lt h.2.1 k e.symm) (Nat.not_lt.2 hk)⟩
theorem request_Join.box_F {u : Value} {g j : Nat} {cs : Array Value} (h : request_Join.St base go v0 v1 v2 L F W w) (hg : w.grownBy w1 v1.ownBlock) (hb : w.heap[g]? = some (.cells cs 26 (0, 0))) (hne : g ≠ go) : (w1.setCell ⟨go, j, none⟩ u).heap[g]? = some (.cells cs 26 (0, 0)) :=
  (Below.heap_setCell w1 ⟨go, j, none⟩ u g hne).trans (blk_grown hb hg (Kd.R_ne h.2.2.1 hb (by decide)))
theorem request_Join.box_W {u : Value} {g j : Nat} {cs : Array Value} (h : request_Join.St base go v0 v1 v2 L F W w) (hg : w.grownBy w1 v2.ownBlock) (hb : w.heap[g]? = some (.cells cs 26 (0, 0))) (hne : g ≠ go) : (w1.setCell ⟨go, j, none⟩ u).heap[g]? = some (.cells cs 26 (0, 0)) :=
  (Below.heap_setCell w1 ⟨go, j, none⟩ u g hne).trans (blk_grown hb hg (Kd.R_ne h.2.2.2 hb (by decide)))
theorem request_Join.box_L {u : Value} {g j : Nat} {cs : Array Value} (h : request_Join.St base go v0 v1 v2 L F W w) (hg : w.grownBy w1 v0.ownBlock) (hb : w.heap[g]? = some (.cells cs 26 (0, 0))) (hne : g ≠ go) : (w1.setCell ⟨go, j, none⟩ u).heap[g]? = some (.cells cs 26 (0, 0)) :=
  (Below.heap_setCell w1 ⟨go, j, none⟩ u g hne).trans (blk_grown hb hg (Kd.N_ne h.2.1 hb (by decide)))
end
theorem request_Join.clone_f (l : List S46) (h : l.length < 3518437208883) : api_Rel_23.f l = some l := by
  unfold api_Rel_23.f
  simp only [Option.bind_some, List.length_nil, Nat.zero_add, if_pos h, List.nil_append]
theorem request_Join.slice_at {w : World} {A : Option Addr} {n : Nat} {xs : List (List S46)} (h : Kd.C (Kd.slice 46 k46) w A n xs) (j : Nat) (o : List S46) (hj : xs[j]? = some o) :
    ∃ ad A0 c0, A = some ad ∧ w.cell? (ad.add j) = some (.slice A0 o.length c0) ∧ o.length ≤ c0 ∧ Kd.C k46 w A0 o.length o := by
  have hl : j < xs.length := (List.getElem?_eq_some_iff.1 hj).1
  obtain ⟨ad, rfl, hc⟩ := h.2.2 (by have := h.1; omega)
  obtain ⟨c, _, ⟨A0, c0, rfl, l0, g0⟩, hu⟩ := hc j o hj
  have := hu 0 _ rfl
  rw [show j * (Kd.slice 46 k46).sz + 0 = j from Nat.mul_one j] at this
  exact ⟨ad, A0, c0, rfl, this, l0, g0⟩
def request_Join.T10 : Bool × List (List Nat × List Nat) := (true, [([], []), ([0], [0]), ([], []), ([2], [2]), ([3], [3]), ([1, 4, 3], [1, 4]), ([0, 1, 2, 3, 4, 5], []), ([6, 5, 5, 0, 1, 2, 3, 4, 5], [5, 6])])
def request_Join.B10 : List Nat := [0, 1, 0, 4, 12, 31, 63, 127]
theorem request_Join.tab10 : rtab .any (opsOf Tryd.f14 10) = request_Join.T10 := by kernel_rfl
theorem request_Join.bits10 : waitsOk request_Join.T10.2 request_Join.B10 = true := by kernel_rfl
set_option maxHeartbeats 1000000 in
set_option maxRecDepth 100000 in
theorem request_Join.calls (k : Nat) (A0_0 : Option Addr) (c0_0 : Nat) (l0_0 : List (List S46)) (A0_1 : Option Addr) (c0_1 : Nat) (l0_1 : List S46) (A0_2 : Option Addr) (c0_2 : Nat) (l0_2 : List S48) (A1_0 : Option Addr) (c1_0 : Nat) (l1_0 : List (List S46)) (A1_1 : Option Addr) (c1_1 : Nat) (l1_1 : List S46) (A1_2 : Option Addr) (c1_2 : Nat) (l1_2 : List S48) (r1 : List (List S46)) (r2 : List S46) (r3 : List S48) (r4 : Int) (w : World) (hr0_0 : Kd.C (Kd.slice 46 k46) w A0_0 l0_0.length l0_0) (hc0_0 : l0_0.length ≤ c0_0) (hr0_1 : Kd.C k46 w A0_1 l0_1.length l0_1) (hc0_1 : l0_1.length ≤ c0_1) (hr0_2 : Kd.C k48 w A0_2 l0_2.length l0_2) (hc0_2 : l0_2.length ≤ c0_2) (hr1_0 : Kd.C (Kd.slice 46 k46) w A1_0 l1_0.length l1_0) (hc1_0 : l1_0.length ≤ c1_0) (hr1_1 : Kd.C k46 w A1_1 l1_1.length l1_1) (hc1_1 : l1_1.length ≤ c1_1) (hr1_2 : Kd.C k48 w A1_2 l1_2.length l1_2) (hc1_2 : l1_2.length ≤ c1_2) (hG : GG w) (h : request_Join.f k l0_0 l0_1 l0_2 l1_0 l1_1 l1_2 = some (r1, r2, r3, r4)) :
    Calls Tryd.prog 14 #[.agg #[.slice A0_0 l0_0.length c0_0, .slice A0_1 l0_1.length c0_1, .slice A0_2 l0_2.length c0_2], .agg #[.slice A1_0 l1_0.length c1_0, .slice A1_1 l1_1.length c1_1, .slice A1_2 l1_2.length c1_2]] w fun e w' => ∃ v0_ v1_ v2_ : Value, e = .returned (.tuple #[.agg #[v0_, v1_, v2_], .int .i64 r4]) ∧ Kd.N (Kd.slice 46 k46) 23 w' w.heap.size (fun k_ => (w.heap.size ≤ k_) ∧ some k_ ≠ (v1_ : Value).ownBlock ∧ some k_ ≠ (v2_ : Value).ownBlock) v0_ r1 ∧ Kd.R k46 46 w' w.heap.size (fun k_ => (w.heap.size ≤ k_)) v1_ r2 ∧ Kd.R k48 48 w' w.heap.size (fun k_ => (w.heap.size ≤ k_)) v2_ r3 ∧ Below w.heap.size w w' := by
  have hu26 := Tryd.underlying26
  have HR0 := Aside0.mk hr0_0
  have HC0 := Aside0.mk hc0_0
  have HR1 := Aside0.mk hr0_1
  have HC1 := Aside0.mk hc0_1
  have HR2 := Aside0.mk hr0_2
  have HC2 := Aside0.mk hc0_2
  have HQ0 := Aside0.mk hr1_0
  have HD0 := Aside0.mk hc1_0
  have HQ1 := Aside0.mk hr1_1
  have HD1 := Aside0.mk hc1_1
  have HQ2 := Aside0.mk hr1_2
  have HD2 := Aside0.mk hc1_2
  have HG := Aside0.mk hG
  clear hr0_0 hc0_0 hr0_1 hc0_1 hr0_2 hc0_2 hG hr1_0 hc1_0 hr1_1 hc1_1 hr1_2 hc1_2
  unfold request_Join.f at h
  obtain ⟨t, ht, h⟩ := Option.bind_eq_some_iff.mp h
  have HF := Aside0.mk ht
  clear ht
  go_enter Tryd.func14, Tryd.ntmps14
  go_upto_region 1 with (first | ((with_reducible refine gate_dst (N := 2) rfl ?_); refine box_event ?hg (N := 2) ?hd (cs := #[.slice A0_0 l0_0.length c0_0, .slice A0_1 l0_1.length c0_1, .slice A0_2 l0_2.length c0_2]) (t := 26) ?hr ?_; (case hd => rfl); (case hg => rfl); (case hr => first | (go_simp; done) | (go_simp; rfl)); intro gp hgp w4 hbox hb; have BP4 := Aside0.mk hbox; have HB4 := Aside0.mk hb; have GP := Aside0.mk hgp; clear hbox hb hgp) | ((with_reducible refine gate_dst (N := 3) rfl ?_); refine box_event ?hg (N := 3) ?hd (cs := #[.slice A1_0 l1_0.length c1_0, .slice A1_1 l1_1.length c1_1, .slice A1_2 l1_2.length c1_2]) (t := 26) ?hr ?_; (case hd => rfl); (case hg => rfl); (case hr => first | (go_simp; done) | (go_simp; rfl)); intro gq hgq w5 hbox hb; have BP5 := Aside0.mk (blk_below BP4.out hb); have BQ5 := Aside0.mk hbox; have HB5 := Aside0.mk (below_step HB4.out hb); have GQ := Aside0.mk (show gp < gq by rw [hgq]; exact blk_lt BP4.out); clear hbox hb hgq HB4 BP4) | ((with_reducible refine gate_dst (N := 4) rfl ?_); refine box_event ?hg (N := 4) ?hd (cs := #[.slice none 0 0, .slice none 0 0, .slice none 0 0]) (t := 26) ?hr ?_; (case hd => rfl); (case hg => rfl); (case hr => first | (go_simp; done) | (go_simp; rfl)); intro gr hgr w6 hbox hb; have BP6 := Aside0.mk (blk_below BP5.out hb); have BQ6 := Aside0.mk (blk_below BQ5.out hb); have BR6 := Aside0.mk hbox; have HB6 := Aside0.mk (below_step HB5.out hb); have GR := Aside0.mk (show gq < gr by rw [hgr]; exact blk_lt BQ5.out); clear hbox hb hgr HB5 BP5 BQ5))
  (try simp only [Act.put, List.setIfInBounds_toArray, List.set_cons_zero, List.set_cons_succ])
  have hgp : w.heap.size = gp := GP.out.symm
  have hcp0 : w6.cell? ⟨gp, 0, none⟩ = some (.slice A0_0 l0_0.length c0_0) := (blk_cell BP6.out 0).trans rfl
  have hcp1 : w6.cell? ⟨gp, 1, none⟩ = some (.slice A0_1 l0_1.length c0_1) := (blk_cell BP6.out 1).trans rfl
  have hcp2 : w6.cell? ⟨gp, 2, none⟩ = some (.slice A0_2 l0_2.length c0_2) := (blk_cell BP6.out 2).trans rfl
  have HGE := Aside0.mk (show w.heap.size ≤ gr by have h1 := GQ.out; have h2 := GR.out; omega)
  cases t with
  | false =>
    simp only [Bool.false_eq_true, if_false, Option.some.injEq, Prod.mk.injEq] at h
    obtain ⟨rfl, rfl, rfl, rfl⟩ := h
    have hn1 : gr ≠ gp := by have h1 := GQ.out; have h2 := GR.out; omega
    have hn2 : gr ≠ gq := by have h2 := GR.out; omega
    have hn3 := hn1.symm
    have hn4 := hn2.symm
    go_wp2_with ((go_at_call 11; (with_reducible refine (request_Formed.calls k _ _ l0_0 _ _ l0_1 _ _ l0_2 false _ (Kd.C_below HR0.out HB6.out) HC0.out (Kd.C_below HR1.out HB6.out) HC1.out (Kd.C_below HR2.out HB6.out) HC2.out (GG.below HG.out HB6.out) HF.out).mono ?_); rintro e w7 ⟨rfl, hb⟩; have BP7 := Aside0.mk (blk_below BP6.out hb); have BQ7 := Aside0.mk (blk_below BQ6.out hb); have BR7 := Aside0.mk (blk_below BR6.out hb); have HB7 := Aside0.mk (below_step HB6.out hb); clear hb; have hr0 : w7.cell? ⟨gr, 0, none⟩ = some (.slice none 0 0) := (blk_cell BR7.out 0).trans rfl; have hr1 : w7.cell? ⟨gr, 1, none⟩ = some (.slice none 0 0) := (blk_cell BR7.out 1).trans rfl; have hr2 : w7.cell? ⟨gr, 2, none⟩ = some (.slice none 0 0) := (blk_cell BR7.out 2).trans rfl; have hz0 := blk_frozen BR7.out 0; have hz1 := blk_frozen BR7.out 1; have hz2 := blk_frozen BR7.out 2))
    refine bodyPost_ret (results_ct rfl _ _ gr 26 #[.slice none 0 0, .slice none 0 0, .slice none 0 0] (0, 0) _ rfl (request_Join.three BR7.out) Tryd.underlying26 rfl (by kernel_rfl)) rfl ?_
    exact ⟨_, _, _, rfl, Kd.N_nil _ _ _ _ _, Kd.R_nil _ _ _ _ _, Kd.R_nil _ _ _ _ _, below_set (below_set (below_set HB7.out HGE.out) HGE.out) HGE.out⟩
  | true =>
    simp only [if_true] at h
    obtain ⟨u, hu, h⟩ := Option.bind_eq_some_iff.mp h
    have HF2 := Aside0.mk hu
    clear hu
    cases u with
    | false =>
      simp only [Bool.false_eq_true, if_false, Option.some.injEq, Prod.mk.injEq] at h
      obtain ⟨rfl, rfl, rfl, rfl⟩ := h
      have hn1 : gr ≠ gp := by have h1 := GQ.out; have h2 := GR.out; omega
      have hn2 : gr ≠ gq := by have h2 := GR.out; omega
      have hn3 := hn1.symm
      have hn4 := hn2.symm
      go_wp2_with (first | (go_at_call 11; (with_reducible refine (request_Formed.calls k _ _ l0_0 _ _ l0_1 _ _ l0_2 true _ (Kd.C_below HR0.out HB6.out) HC0.out (Kd.C_below HR1.out HB6.out) HC1.out (Kd.C_below HR2.out HB6.out) HC2.out (GG.below HG.out HB6.out) HF.out).mono ?_); rintro e w7 ⟨rfl, hb⟩; have BP7 := Aside0.mk (blk_below BP6.out hb); have BQ7 := Aside0.mk (blk_below BQ6.out hb); have BR7 := Aside0.mk (blk_below BR6.out hb); have HB7 := Aside0.mk (below_step HB6.out hb); clear hb; have hq0 : w7.cell? ⟨gq, 0, none⟩ = some (.slice A1_0 l1_0.length c1_0) := (blk_cell BQ7.out 0).trans rfl; have hq1 : w7.cell? ⟨gq, 1, none⟩ = some (.slice A1_1 l1_1.length c1_1) := (blk_cell BQ7.out 1).trans rfl; have hq2 : w7.cell? ⟨gq, 2, none⟩ = some (.slice A1_2 l1_2.length c1_2) := (blk_cell BQ7.out 2).trans rfl) | (go_at_call 11; (with_reducible refine (request_Formed.calls k _ _ l1_0 _ _ l1_1 _ _ l1_2 false _ (Kd.C_below HQ0.out HB7.out) HD0.out (Kd.C_below HQ1.out HB7.out) HD1.out (Kd.C_below HQ2.out HB7.out) HD2.out (GG.below HG.out HB7.out) HF2.out).mono ?_); rintro e w8 ⟨rfl, hb⟩; have BP8 := Aside0.mk (blk_below BP7.out hb); have BQ8 := Aside0.mk (blk_below BQ7.out hb); have BR8 := Aside0.mk (blk_below BR7.out hb); have HB8 := Aside0.mk (below_step HB7.out hb); clear hb; have hr0 : w8.cell? ⟨gr, 0, none⟩ = some (.slice none 0 0) := (blk_cell BR8.out 0).trans rfl; have hr1 : w8.cell? ⟨gr, 1, none⟩ = some (.slice none 0 0) := (blk_cell BR8.out 1).trans rfl; have hr2 : w8.cell? ⟨gr, 2, none⟩ = some (.slice none 0 0) := (blk_cell BR8.out 2).trans rfl; have hz0 := blk_frozen BR8.out 0; have hz1 := blk_frozen BR8.out 1; have hz2 := blk_frozen BR8.out 2))
      refine bodyPost_ret (results_ct rfl _ _ gr 26 #[.slice none 0 0, .slice none 0 0, .slice none 0 0] (0, 0) _ rfl (request_Join.three BR8.out) Tryd.underlying26 rfl (by kernel_rfl)) rfl ?_
      exact ⟨_, _, _, rfl, Kd.N_nil _ _ _ _ _, Kd.R_nil _ _ _ _ _, Kd.R_nil _ _ _ _ _, below_set (below_set (below_set HB8.out HGE.out) HGE.out) HGE.out⟩
    | true =>
      simp only [if_true] at h
      split at h
      case isFalse => cases h
      case isTrue hlim =>
      have HLIM := Aside0.mk hlim
      clear hlim
      simp only [Option.some.injEq, Prod.mk.injEq] at h
      obtain ⟨rfl, rfl, rfl, rfl⟩ := h
      go_wp2_with (first | (go_at_call 11; (with_reducible refine (request_Formed.calls k _ _ l0_0 _ _ l0_1 _ _ l0_2 true _ (Kd.C_below HR0.out HB6.out) HC0.out (Kd.C_below HR1.out HB6.out) HC1.out (Kd.C_below HR2.out HB6.out) HC2.out (GG.below HG.out HB6.out) HF.out).mono ?_); rintro e w7 ⟨rfl, hb⟩; have BP7 := Aside0.mk (blk_below BP6.out hb); have BQ7 := Aside0.mk (blk_below BQ6.out hb); have BR7 := Aside0.mk (blk_below BR6.out hb); have HB7 := Aside0.mk (below_step HB6.out hb); clear hb; have hq0 : w7.cell? ⟨gq, 0, none⟩ = some (.slice A1_0 l1_0.length c1_0) := (blk_cell BQ7.out 0).trans rfl; have hq1 : w7.cell? ⟨gq, 1, none⟩ = some (.slice A1_1 l1_1.length c1_1) := (blk_cell BQ7.out 1).trans rfl; have hq2 : w7.cell? ⟨gq, 2, none⟩ = some (.slice A1_2 l1_2.length c1_2) := (blk_cell BQ7.out 2).trans rfl) | (go_at_call 11; (with_reducible refine (request_Formed.calls k _ _ l1_0 _ _ l1_1 _ _ l1_2 true _ (Kd.C_below HQ0.out HB7.out) HD0.out (Kd.C_below HQ1.out HB7.out) HD1.out (Kd.C_below HQ2.out HB7.out) HD2.out (GG.below HG.out HB7.out) HF2.out).mono ?_); rintro e w8 ⟨rfl, hb⟩; have BP8 := Aside0.mk (blk_below BP7.out hb); have BQ8 := Aside0.mk (blk_below BQ7.out hb); have BR8 := Aside0.mk (blk_below BR7.out hb); have HB8 := Aside0.mk (below_step HB7.out hb); clear hb) | ((with_reducible refine gate_dst (N := 6) rfl ?_); refine box_event ?hg (N := 6) ?hd (cs := #[.slice none 0 0, .slice none 0 0, .slice none 0 0]) (t := 26) ?hr ?_; (case hd => rfl); (case hg => rfl); (case hr => first | (go_simp; done) | (go_simp; rfl)); intro gO hgo w9 hbox hb; have BP9 := Aside0.mk (blk_below BP8.out hb); have BQ9 := Aside0.mk (blk_below BQ8.out hb); have BR9 := Aside0.mk (blk_below BR8.out hb); have BO9 := Aside0.mk hbox; have HB9 := Aside0.mk (below_step HB8.out hb); have GO := Aside0.mk (show gr < gO by rw [hgo]; exact blk_lt BR8.out); clear hbox hb hgo; have hp0 : w9.cell? ⟨gp, 0, none⟩ = some (.slice A0_0 l0_0.length c0_0) := (blk_cell BP9.out 0).trans rfl; have hp1 : w9.cell? ⟨gp, 1, none⟩ = some (.slice A0_1 l0_1.length c0_1) := (blk_cell BP9.out 1).trans rfl; have hp2 : w9.cell? ⟨gp, 2, none⟩ = some (.slice A0_2 l0_2.length c0_2) := (blk_cell BP9.out 2).trans rfl; have hk0 : w9.cell? ⟨gq, 0, none⟩ = some (.slice A1_0 l1_0.length c1_0) := (blk_cell BQ9.out 0).trans rfl; have hk1 : w9.cell? ⟨gq, 1, none⟩ = some (.slice A1_1 l1_1.length c1_1) := (blk_cell BQ9.out 1).trans rfl; have hk2 : w9.cell? ⟨gq, 2, none⟩ = some (.slice A1_2 l1_2.length c1_2) := (blk_cell BQ9.out 2).trans rfl))
      clear hp0 hp1 hp2 hk0 hk1 hk2 hq0 hq1 hq2 hcp0 hcp1 hcp2
      have HGG := Aside0.mk (show w.heap.size ≤ gO by have h1 := GQ.out; have h2 := GR.out; have h3 := GO.out; omega)
      have HNR := Aside0.mk (show gr ≠ gO by have h3 := GO.out; omega)
      have HNS := Aside0.mk (show w9.heap.size ≠ gO by have h3 := blk_lt BO9.out; omega)
      go_loopg [24] 2 (fun gg s24 wr => ∃ (x : Nat) (v0 v1 v2 : Value), s24 = .int .i64 (x : Int) ∧ x ≤ 2 ∧ 2 - x ≤ gg ∧ Aside0 (request_Join.St w.heap.size gO v0 v1 v2 ([l0_0, l1_0].take x).flatten ([l0_1, l1_1].take x).flatten ([l0_2, l1_2].take x).flatten wr) ∧ Aside0 (wr.heap[w9.heap.size]? = some (.cells #[.slice A0_0 l0_0.length c0_0, .slice A0_1 l0_1.length c0_1, .slice A0_2 l0_2.length c0_2, .slice A1_0 l1_0.length c1_0, .slice A1_1 l1_1.length c1_1, .slice A1_2 l1_2.length c1_2] 26 (0, 0))) ∧ Aside0 (wr.heap[gr]? = some (.cells #[.slice none 0 0, .slice none 0 0, .slice none 0 0] 26 (0, 0))) ∧ Aside0 (Below w.heap.size w wr))
      case atStart => exact ⟨0, .slice none 0 0, .slice none 0 0, .slice none 0 0, rfl, by omega, by omega, ⟨blk_alloc BO9.out _, Kd.N_nil _ _ _ _ _, Kd.R_nil _ _ _ _ _, Kd.R_nil _ _ _ _ _⟩, ⟨blk_new _ _⟩, ⟨blk_alloc BR9.out _⟩, ⟨below_alloc HB9.out _⟩⟩
      case round =>
        obtain ⟨x, v0, v1, v2, rfl, hx2, hg, HS, HX, HR, HBl⟩ := hrel
        by_cases hlt : x < 2
        · obtain ⟨g, rfl⟩ : ∃ g, gk = g + 1 := ⟨gk - 1, by omega⟩
          have key : ∃ (B0 : Option Addr) (d0 : Nat) (la : List (List S46)) (B1 : Option Addr) (d1 : Nat) (lf : List S46) (B2 : Option Addr) (d2 : Nat) (lw : List S48), (wr.cell? ⟨w9.heap.size, x * 3, none⟩ = some (.slice B0 la.length d0) ∧ wr.cell? ⟨w9.heap.size, x * 3 + 1, none⟩ = some (.slice B1 lf.length d1) ∧ wr.cell? ⟨w9.heap.size, x * 3 + 2, none⟩ = some (.slice B2 lw.length d2)) ∧ (Kd.C (Kd.slice 46 k46) w B0 la.length la ∧ la.length ≤ d0 ∧ Kd.C k46 w B1 lf.length lf ∧ lf.length ≤ d1 ∧ Kd.C k48 w B2 lw.length lw ∧ lw.length ≤ d2) ∧ ([l0_0, l1_0].take (x + 1)).flatten = ([l0_0, l1_0].take x).flatten ++ la ∧ ([l0_1, l1_1].take (x + 1)).flatten = ([l0_1, l1_1].take x).flatten ++ lf ∧ ([l0_2, l1_2].take (x + 1)).flatten = ([l0_2, l1_2].take x).flatten ++ lw ∧ (([l0_0, l1_0].take x).flatten ++ la).length < 5864062014805 ∧ (([l0_1, l1_1].take x).flatten ++ lf).length < 3518437208883 ∧ (([l0_2, l1_2].take x).flatten ++ lw).length < 2932031007402 ∧ (∀ o ∈ la, o.length < 3518437208883) := by
            have ⟨hl0, hl1, hl2, hl3⟩ := HLIM.out
            have e : x = 0 ∨ x = 1 := by omega
            rcases e with rfl | rfl
            · exact ⟨A0_0, c0_0, l0_0, A0_1, c0_1, l0_1, A0_2, c0_2, l0_2, ⟨(blk_cell HX.out 0).trans rfl, (blk_cell HX.out 1).trans rfl, (blk_cell HX.out 2).trans rfl⟩, ⟨HR0.out, HC0.out, HR1.out, HC1.out, HR2.out, HC2.out⟩, by simp, by simp, by simp, by simp; omega, by simp; omega, by simp; omega, fun o ho => hl3 o (List.mem_append.2 (Or.inl ho))⟩
            · exact ⟨A1_0, c1_0, l1_0, A1_1, c1_1, l1_1, A1_2, c1_2, l1_2, ⟨(blk_cell HX.out 3).trans rfl, (blk_cell HX.out 4).trans rfl, (blk_cell HX.out 5).trans rfl⟩, ⟨HQ0.out, HD0.out, HQ1.out, HD1.out, HQ2.out, HD2.out⟩, by simp, by simp, by simp, by simp; omega, by simp; omega, by simp; omega, fun o ho => hl3 o (List.mem_append.2 (Or.inr ho))⟩
          obtain ⟨B0, d0, la, B1, d1, lf, B2, d2, lw, ⟨hx0, hx1, hx2'⟩, ⟨hA, hcA, hF, hcF, hW, hcW⟩, e0, e1, e2, l0, l1, l2, l3⟩ := key
          have KA := Aside0.mk hA
          have KCA := Aside0.mk hcA
          have KF := Aside0.mk hF
          have KCF := Aside0.mk hcF
          have KW := Aside0.mk hW
          have KCW := Aside0.mk hcW
          have HE := Aside0.mk (And.intro e0 (And.intro e1 e2))
          have HLE := Aside0.mk (And.intro l0 (And.intro l1 (And.intro l2 l3)))
          have hltb : decide ((x : Int) < 2) = true := decide_eq_true (by omega)
          have p0 : (0 ≤ (x : Int)) = True := eq_true (by omega)
          have p1 : ((x : Int) < 2) = True := eq_true (by omega)
          clear hA hcA hF hcF hW hcW e0 e1 e2 l0 l1 l2 l3
          obtain ⟨Lx, hLx⟩ : ∃ Lx, ([l0_0, l1_0].take x).flatten = Lx := ⟨_, rfl⟩
          obtain ⟨Fx, hFx⟩ : ∃ Fx, ([l0_1, l1_1].take x).flatten = Fx := ⟨_, rfl⟩
          obtain ⟨Wx, hWx⟩ : ∃ Wx, ([l0_2, l1_2].take x).flatten = Wx := ⟨_, rfl⟩
          rw [hLx, hFx, hWx] at HS HE HLE
          have HXX := Aside0.mk (And.intro hLx (And.intro hFx hWx))
          clear hLx hFx hWx
          have HLT := Aside0.mk (show gO < wr.heap.size ∧ w9.heap.size < wr.heap.size ∧ gr < wr.heap.size from ⟨blk_lt HS.out.1, blk_lt HX.out, blk_lt HR.out⟩)
          go_wp2
          obtain ⟨gx, hgx⟩ : ∃ gx, wr.heap.size = gx := ⟨_, rfl⟩
          have HGX := Aside0.mk (show gO ≠ gx ∧ w9.heap.size ≠ gx ∧ gr ≠ gx by have h1 := HLT.out; omega)
          have HBX := Aside0.mk (blk_new wr (.cells #[.slice B0 la.length d0, .slice B1 lf.length d1, .slice B2 lw.length d2] 26 (0, 0)))
          rw [hgx] at HBX
          rw [hgx]
          clear hx0 hx1 hx2'
          go_loopg [31] la.length (fun gg s31 wi => ∃ (y : Nat) (u0 : Value), s31 = .int .i64 (y : Int) ∧ y ≤ la.length ∧ la.length - y ≤ gg ∧ Aside0 (request_Join.St w.heap.size gO u0 v1 v2 (Lx ++ la.take y) Fx Wx wi) ∧ Aside0 (wi.heap[gx]? = some (.cells #[.slice B0 la.length d0, .slice B1 lf.length d1, .slice B2 lw.length d2] 26 (0, 0))) ∧ Aside0 (wi.heap[w9.heap.size]? = some (.cells #[.slice A0_0 l0_0.length c0_0, .slice A0_1 l0_1.length c0_1, .slice A0_2 l0_2.length c0_2, .slice A1_0 l1_0.length c1_0, .slice A1_1 l1_1.length c1_1, .slice A1_2 l1_2.length c1_2] 26 (0, 0))) ∧ Aside0 (wi.heap[gr]? = some (.cells #[.slice none 0 0, .slice none 0 0, .slice none 0 0] 26 (0, 0))) ∧ Aside0 (Below w.heap.size w wi))
          case atStart =>
            refine ⟨0, v0, rfl, by omega, by omega, ⟨?_⟩, HBX, ⟨blk_alloc HX.out _⟩, ⟨blk_alloc HR.out _⟩, ⟨below_alloc HBl.out _⟩⟩
            rw [List.take_zero, List.append_nil]
            exact request_Join.St_below HS.out (below_alloc (Below.refl _ _) _)
          case round =>
            clear HBX HS HX HR HBl
            obtain ⟨y, u0, rfl, hy, hgy, HS, HBX, HX, HR, HBl⟩ := hrel
            by_cases hly : y < la.length
            · obtain ⟨gk2, rfl⟩ : ∃ g, gk = g + 1 := ⟨gk - 1, by omega⟩
              have HY := Aside0.mk (show y + 1 ≤ la.length ∧ la.length - (y + 1) ≤ gk2 ∧ wrap64 ((y : Int) + 1) = ((y + 1 : Nat) : Int) by have h1 := KA.out.2.1; refine ⟨by omega, by omega, ?_⟩; unfold wrap64; omega)
              obtain ⟨o, ho⟩ : ∃ o, la[y]? = some o := ⟨_, List.getElem?_eq_getElem hly⟩
              obtain ⟨ad, Ai, ci, rfl, hcell, hci, hki⟩ := request_Join.slice_at KA.out y o ho
              have hxc := (HBl.out.cell (World.block_lt_of_cell? w _ hcell)).trans hcell
              have KO := Aside0.mk hki
              have KCO := Aside0.mk hci
              have HOO := Aside0.mk ho
              clear hcell hki hci ho
              have q0 : decide ((y : Int) < (la.length : Int)) = true := decide_eq_true (by omega)
              have q1 : (0 ≤ (y : Int)) = True := eq_true (by omega)
              have q2 : ((y : Int) < (la.length : Int)) = True := eq_true (by omega)
              have HLL := Aside0.mk (show (Lx ++ la.take y).length + 1 ≤ 5864062014805 by have h1 := HLE.out.1; rw [List.length_append] at h1 ⊢; rw [List.length_take]; omega)
              go_wp2
              have n0 := Aside0.mk (request_Join.St_below HS.out (below_drew (Below.refl _ _)))
              have n1 := Aside0.mk (blk_drew HBX.out)
              have n2 := Aside0.mk (blk_drew HX.out)
              have n3 := Aside0.mk (blk_drew HR.out)
              have n4 := Aside0.mk (below_drew1 HBl.out)
              clear HS HBX HX HR HBl
              refine start_ (n := 8) (S := fun w' => w'.cell? ⟨gO, 0, none⟩ = some (u0) ∧ w'.cell? ⟨gO, 1, none⟩ = some (v1) ∧ w'.cell? ⟨gO, 2, none⟩ = some (v2)) (ds := [7]) #[false, false, false, false, false, false, false, false] (by kernel_rfl) rfl rfl ⟨(blk_cell n0.out.1 0).trans rfl, (blk_cell n0.out.1 1).trans rfl, (blk_cell n0.out.1 2).trans rfl⟩ (fun hHeld => ?_); refine with_tabW request_Join.tab10 request_Join.bits10 (fun HT_ HW_ => ?_)
              generalize wr.drew = w50 at n0 n1 n2 n3 n4 hHeld ⊢
              refine pure_ (i := 0) (N := some 35) (v := ?_) (a' := ?_) #[true, false, false, false, false, false, false, false] rfl rfl (any_of HT_.out (by kernel_rfl)) (fun _ _ _ h => h) (Or.inl ⟨by rfl, ?_⟩) ?_ ?_
              rotate_left
              · intro w'
                go_simp
                with_reducible rfl
              rotate_left
              · simp only [Act.put, List.setIfInBounds_toArray, List.set_cons_zero, List.set_cons_succ, i64_w, i32_w]
                rfl
              refine pure_ (i := 2) (N := some 37) (v := ?_) (a' := ?_) #[true, false, true, false, false, false, false, false] rfl rfl (any_of HT_.out (by kernel_rfl)) (fun _ _ _ h => h) (Or.inl ⟨by rfl, ?_⟩) ?_ ?_
              rotate_left
              · intro w'
                go_simp
                with_reducible rfl
              rotate_left
              · simp only [Act.put, List.setIfInBounds_toArray, List.set_cons_zero, List.set_cons_succ, i64_w, i32_w]
                rfl
              refine take_ (i := 1) (N := some 36) (v := ?_) (a' := ?_) #[true, true, true, false, false, false, false, false] rfl rfl (take_ofW HT_.out HW_.out (by kernel_rfl)) (fun _ _ _ h => h) (Or.inl ⟨by rfl, ?_⟩) hHeld ?_ ?_
              rotate_left
              · rintro w' ⟨s0, s1, s2⟩
                go_simp
                with_reducible rfl
              rotate_left
              · simp only [Act.put, List.setIfInBounds_toArray, List.set_cons_zero, List.set_cons_succ, i64_w, i32_w]
                rfl
              refine one_ (i := 3) (N := some 38) #[true, true, true, true, false, false, false, false] rfl rfl (one_of HT_.out (by kernel_rfl)) (by decide) (fun K hK => ?_)
              refine goes_ Tryd.func23 (by kernel_rfl) rfl #[.slice Ai o.length ci] (by rfl) rfl rfl (by (try simp only [List.map_toArray, List.map_cons, List.map_nil]); first | done | rfl | (simp only [List.length_drop, List.length_take]; rfl) | (simp; done)) ?_
              refine (api_Rel_23.calls _ _ o o _ (Kd.C_below KO.out n4.out) KCO.out (request_Join.clone_f o (HLE.out.2.2.2 o (List.mem_of_getElem? HOO.out)))).mono ?_
              rintro e w51 ⟨v165, rfl, ho0, hb⟩
              refine ⟨_, rfl, ?_⟩
              have m0 := Aside0.mk (request_Join.St_below n0.out hb)
              have m1 := Aside0.mk (blk_below n1.out hb)
              have m2 := Aside0.mk (blk_below n2.out hb)
              have m3 := Aside0.mk (blk_below n3.out hb)
              have m4 := Aside0.mk (below_step n4.out hb)
              have m5 := Aside0.mk (Kd.R_mono (ok' := fun k => (gO < k ∧ some k ≠ v1.ownBlock ∧ some k ≠ v2.ownBlock) ∧ some k ≠ u0.ownBlock) (Kd.R_bound ho0) (fun k hk => request_Join.fresh_ok n0.out k hk.2.1))
              clear n0 n1 n2 n3 n4 ho0 hb
              obtain ⟨Ao, co, eo⟩ := Kd.R_slice m5.out
              subst eo
              refine hK.out _ _ ⟨(blk_cell m0.out.1 0).trans rfl, (blk_cell m0.out.1 1).trans rfl, (blk_cell m0.out.1 2).trans rfl⟩ (fun hHeld => ?_)
              clear hK K
              refine norm_ (a' := ?_) ?_ ?_
              rotate_left
              · show Act.put _ (some 38) _ = _
                simp only [Act.put, List.setIfInBounds_toArray, List.set_cons_zero, List.set_cons_succ, i64_w, i32_w]
                rfl
              refine one_ (i := 4) (N := some 39) #[true, true, true, true, true, false, false, false] rfl rfl (one_of HT_.out (by kernel_rfl)) (by decide) (fun K hK => ?_)
              refine value_ (w1 := ?_) (v := ?_) (by rfl) rfl ?_ ?_
              rotate_left 2
              · go_simp
                constructor
                · rfl
                · rfl
              refine hK.out _ _ ⟨(blk_cell (blk_alloc m0.out.1 _) 0).trans rfl, (blk_cell (blk_alloc m0.out.1 _) 1).trans rfl, (blk_cell (blk_alloc m0.out.1 _) 2).trans rfl⟩ (fun hHeld => ?_)
              clear hK K
              refine norm_ (a' := ?_) ?_ ?_
              rotate_left
              · show Act.put _ (some 39) _ = _
                simp only [Act.put, List.setIfInBounds_toArray, List.set_cons_zero, List.set_cons_succ, i64_w, i32_w]
                rfl
              refine one_ (i := 5) (N := some 40) #[true, true, true, true, true, true, false, false] rfl rfl (one_of HT_.out (by kernel_rfl)) (by decide) (fun K hK => ?_)
              refine Kd.N_append_step (Kd.slice 46 k46) (w0 := w) w.heap.size (by rfl) (.tmp 36) (.tmp 39) 22 23 (.slice none 0 0) 24 rfl Tryd.underlying22 request_Join.info23 rfl (by decide) (by omega) u0 (Lx ++ la.take y) o [.slice Ao o.length co] (fun k => gO < k ∧ some k ≠ v1.ownBlock ∧ some k ≠ v2.ownBlock) (fun k => (gO < k ∧ some k ≠ v1.ownBlock ∧ some k ≠ v2.ownBlock) ∧ some k ≠ u0.ownBlock) rfl rfl ?aP (fun _ hk => hk) ?aF ?aO ?aB ?aS ?aL ?_
              (case aP => exact (Kd.FK_slice_mk (Kd.R_reads' m5.out).2.1 (Kd.R_F m5.out)))
              (case aB => exact m4.out)
              (case aF => exact (fun k hk => (request_Join.fresh_ok m0.out k hk).1))
              (case aO => exact m0.out.2.1)
              (case aS => exact below_size m4.out)
              (case aL => have := HLL.out; omega)
              intro v168 w52 ho hb hg hat
              obtain ⟨L2, hL2⟩ : ∃ L2, (Lx ++ la.take y) ++ [o] = L2 := ⟨_, rfl⟩
              rw [hL2] at ho
              have s0 := Aside0.mk (request_Join.St_L m0.out ho hg)
              have s1 := Aside0.mk (request_Join.box_L (j := 0) (u := v168) m0.out hg m1.out (Ne.symm HGX.out.1))
              have s2 := Aside0.mk (request_Join.box_L (j := 0) (u := v168) m0.out hg m2.out HNS.out)
              have s3 := Aside0.mk (request_Join.box_L (j := 0) (u := v168) m0.out hg m3.out HNR.out)
              have s4 := Aside0.mk (below_set (j := 0) (v := v168) hb HGG.out)
              have hbo := blk_grown m0.out.1 hg (Kd.N_ne m0.out.2.1 m0.out.1 (by decide))
              obtain ⟨Ao54, co54, eo54⟩ := Kd.N_slice ho
              subst eo54
              clear ho hb hg hat m0 m1 m2 m3 m4 m5
              refine hK.out _ _ ⟨(blk_cell hbo 0).trans rfl, (blk_cell hbo 1).trans rfl, (blk_cell hbo 2).trans rfl⟩ (fun hHeld => ?_)
              clear hK K
              refine norm_ (a' := ?_) ?_ ?_
              rotate_left
              · show Act.put _ (some 40) _ = _
                simp only [Act.put, List.setIfInBounds_toArray, List.set_cons_zero, List.set_cons_succ, i64_w, i32_w]
                rfl
              refine pure_ (i := 6) (N := some 41) (v := ?_) (a' := ?_) #[true, true, true, true, true, true, true, false] rfl rfl (any_of HT_.out (by kernel_rfl)) (fun _ _ _ h => h) (Or.inl ⟨by rfl, ?_⟩) ?_ ?_
              rotate_left
              · intro w'
                go_simp
                with_reducible rfl
              rotate_left
              · simp only [Act.put, List.setIfInBounds_toArray, List.set_cons_zero, List.set_cons_succ, i64_w, i32_w]
                rfl
              refine last_ (i := 7) (N := none) #[true, true, true, true, true, true, true, true] rfl rfl (one_of HT_.out (by kernel_rfl)) (by decide) (fun K hK => ?_)
              have hs55 : w52.cell? ⟨gO, 0, none⟩ = some (u0) := (blk_cell hbo 0).trans rfl
              have hfs55 := blk_frozen hbo 0
              refine skip_ (w1 := ?_) (by rfl) rfl ?_ ?_
              rotate_left
              · go_simp
                rfl
              refine hK.out _ _ ?_
              clear hK K
              refine done_ (done_of HT_.out (by kernel_rfl)) ?_
              try go_wp2
              go_roundg gk2
              case measure => exact Nat.lt_succ_self gk2
              case rel =>
                have e : Lx ++ la.take (y + 1) = L2 := by
                  rw [← hL2, List.take_add_one, HOO.out, Option.toList_some, List.append_assoc]
                refine ⟨y + 1, .slice Ao54 L2.length co54, congrArg (Value.int .i64) HY.out.2.2, HY.out.1, HY.out.2.1, ⟨?_⟩, s1, s2, s3, s4⟩
                rw [e]
                exact s0.out
            · have q0 : decide ((y : Int) < (la.length : Int)) = false := decide_eq_false (by omega)
              have q2 : ((y : Int) < (la.length : Int)) = False := eq_false (by omega)
              obtain rfl : y = la.length := by omega
              rw [List.take_length] at HS
              have hnx : gx ≠ gO := Ne.symm HGX.out.1
              have hny := HGX.out.1
              have c00 : wr.cell? ⟨gO, 0, none⟩ = some (u0) := (blk_cell HS.out.1 0).trans rfl
              have c01 : wr.cell? ⟨gO, 1, none⟩ = some (v1) := (blk_cell HS.out.1 1).trans rfl
              have c02 : wr.cell? ⟨gO, 2, none⟩ = some (v2) := (blk_cell HS.out.1 2).trans rfl
              have z00 := blk_frozen HS.out.1 0
              have z01 := blk_frozen HS.out.1 1
              have z02 := blk_frozen HS.out.1 2
              have cy0 : wr.cell? ⟨gx, 0, none⟩ = some (.slice B0 la.length d0) := (blk_cell HBX.out 0).trans rfl
              have cy1 : wr.cell? ⟨gx, 1, none⟩ = some (.slice B1 lf.length d1) := (blk_cell HBX.out 1).trans rfl
              have cy2 : wr.cell? ⟨gx, 2, none⟩ = some (.slice B2 lw.length d2) := (blk_cell HBX.out 2).trans rfl
              go_wp2_with (first | ((with_reducible refine gate_builtin (b := .append) (xs := #[.tmp 44, .tmp 46]) rfl ?_); at_builtin; refine Kd.R_append_rows k46 (w0 := w) w.heap.size rfl (.tmp 44) (.tmp 46) 23 46 (.agg #[(.string ⟨#[]⟩), (.int .i64 0), (.string ⟨#[]⟩)]) 40 rfl Tryd.underlying23 request_Join.info46 rfl (by decide) (by omega) v1 Fx lf _ _ _ (fun k => gO < k) (fun _ => False) rfl rfl ?aO ?aR (fun _ _ h => h) (fun _ h => h.elim) ?aF ?aB ?aS ?aL ?_; (case aR => exact Kd.C_below KF.out HBl.out); (case aB => exact HBl.out); (case aF => exact (fun k hk => (request_Join.fresh_ok HS.out k hk).1.1)); (case aO => exact HS.out.2.2.1); (case aS => exact below_size HBl.out); (case aL => have h1 := HLE.out.2.1; rw [List.length_append] at h1; omega); intro v171 w67 ho hb hg hat; obtain ⟨F2, hF2⟩ : ∃ F2, Fx ++ lf = F2 := ⟨_, rfl⟩; rw [hF2] at ho; have s0 := Aside0.mk (request_Join.St_F HS.out ho hg hat); have s1 := Aside0.mk (request_Join.box_F (j := 1) (u := v171) HS.out hg HBX.out (Ne.symm HGX.out.1)); have s2 := Aside0.mk (request_Join.box_F (j := 1) (u := v171) HS.out hg HX.out HNS.out); have s3 := Aside0.mk (request_Join.box_F (j := 1) (u := v171) HS.out hg HR.out HNR.out); have s4 := Aside0.mk (below_set (j := 1) (v := v171) hb HGG.out); have hbo := Aside0.mk (blk_grown HS.out.1 hg (Kd.R_ne HS.out.2.2.1 HS.out.1 (by decide))); have hbx := Aside0.mk (blk_grown HBX.out hg (Kd.R_ne HS.out.2.2.1 HBX.out (by decide))); obtain ⟨Ao68, co68, eo68⟩ := Kd.R_slice ho; subst eo68; have HF2 := Aside0.mk hF2; clear ho hb hg hat hF2; have ca0 : w67.cell? ⟨gO, 0, none⟩ = some (u0) := (blk_cell hbo.out 0).trans rfl; have ca1 : w67.cell? ⟨gO, 1, none⟩ = some (v1) := (blk_cell hbo.out 1).trans rfl; have ca2 : w67.cell? ⟨gO, 2, none⟩ = some (v2) := (blk_cell hbo.out 2).trans rfl; have cf0 := blk_frozen hbo.out 0; have cf1 := blk_frozen hbo.out 1; have cf2 := blk_frozen hbo.out 2; have cx0 : w67.cell? ⟨gx, 0, none⟩ = some (.slice B0 la.length d0) := (blk_cell hbx.out 0).trans rfl; have cx1 : w67.cell? ⟨gx, 1, none⟩ = some (.slice B1 lf.length d1) := (blk_cell hbx.out 1).trans rfl; have cx2 : w67.cell? ⟨gx, 2, none⟩ = some (.slice B2 lw.length d2) := (blk_cell hbx.out 2).trans rfl) | ((with_reducible refine gate_builtin (b := .append) (xs := #[.tmp 50, .tmp 52]) rfl ?_); at_builtin; refine Kd.R_append_rows k48 (w0 := w) w.heap.size rfl (.tmp 50) (.tmp 52) 24 48 (.agg #[(.bool false), (.string ⟨#[]⟩), (.int .i64 0), (.string ⟨#[]⟩)]) 48 rfl Tryd.underlying24 request_Join.info48 rfl (by decide) (by omega) v2 Wx lw _ _ _ (fun k => gO < k) (fun _ => False) rfl rfl ?aO ?aR (fun _ _ h => h) (fun _ h => h.elim) ?aF ?aB ?aS ?aL ?_; (case aR => exact Kd.C_below KW.out s4.out); (case aB => exact s4.out); (case aF => exact (fun k hk => (request_Join.fresh_ok s0.out k hk).1.1)); (case aO => exact s0.out.2.2.2); (case aS => exact below_size s4.out); (case aL => have h1 := HLE.out.2.2.1; rw [List.length_append] at h1; omega); intro v174 w71 ho hb hg hat; obtain ⟨W2, hW2⟩ : ∃ W2, Wx ++ lw = W2 := ⟨_, rfl⟩; rw [hW2] at ho; have t0 := Aside0.mk (request_Join.St_W s0.out ho hg hat); have t1 := Aside0.mk (request_Join.box_W (j := 2) (u := v174) s0.out hg s1.out (Ne.symm HGX.out.1)); have t2 := Aside0.mk (request_Join.box_W (j := 2) (u := v174) s0.out hg s2.out HNS.out); have t3 := Aside0.mk (request_Join.box_W (j := 2) (u := v174) s0.out hg s3.out HNR.out); have t4 := Aside0.mk (below_set (j := 2) (v := v174) hb HGG.out); have hbp := Aside0.mk (blk_grown s0.out.1 hg (Kd.R_ne s0.out.2.2.2 s0.out.1 (by decide))); obtain ⟨Ao72, co72, eo72⟩ := Kd.R_slice ho; subst eo72; have HW2 := Aside0.mk hW2; clear ho hb hg hat hW2 s0 s1 s2 s3 s4; have cb0 : w71.cell? ⟨gO, 0, none⟩ = some (u0) := (blk_cell hbp.out 0).trans rfl; have cb1 : w71.cell? ⟨gO, 1, none⟩ = some (.slice Ao68 F2.length co68) := (blk_cell hbp.out 1).trans rfl; have cb2 : w71.cell? ⟨gO, 2, none⟩ = some (v2) := (blk_cell hbp.out 2).trans rfl; have cg0 := blk_frozen hbp.out 0; have cg1 := blk_frozen hbp.out 1; have cg2 := blk_frozen hbp.out 2))
              have HXS := Aside0.mk (show x + 1 ≤ 2 ∧ 2 - (x + 1) ≤ g ∧ wrap64 ((x : Int) + 1) = ((x + 1 : Nat) : Int) by refine ⟨by omega, by omega, ?_⟩; unfold wrap64; omega)
              go_roundg g
              case measure => exact Nat.lt_succ_self g
              case rel =>
                refine ⟨x + 1, u0, .slice Ao68 F2.length co68, .slice Ao72 W2.length co72, (by first | exact congrArg (Value.int .i64) HXS.out.2.2 | rfl), HXS.out.1, HXS.out.2.1, ⟨?_⟩, t2, t3, t4⟩
                rw [HE.out.1, HE.out.2.1, HE.out.2.2, HF2.out, HW2.out]
                exact t0.out
        · have hltb : decide ((x : Int) < 2) = false := decide_eq_false (by omega)
          have p1 : ((x : Int) < 2) = False := eq_false (by omega)
          obtain rfl : x = 2 := by omega
          have e0 : ([l0_0, l1_0].take 2).flatten = l0_0 ++ l1_0 := by simp
          have e1 : ([l0_1, l1_1].take 2).flatten = l0_1 ++ l1_1 := by simp
          have e2 : ([l0_2, l1_2].take 2).flatten = l0_2 ++ l1_2 := by simp
          rw [e0, e1, e2] at HS
          obtain ⟨L9, hL9⟩ : ∃ L9, l0_0 ++ l1_0 = L9 := ⟨_, rfl⟩
          obtain ⟨F9, hF9⟩ : ∃ F9, l0_1 ++ l1_1 = F9 := ⟨_, rfl⟩
          obtain ⟨W9, hW9⟩ : ∃ W9, l0_2 ++ l1_2 = W9 := ⟨_, rfl⟩
          rw [hL9, hF9, hW9] at HS
          have H9 := Aside0.mk (And.intro hL9 (And.intro hF9 hW9))
          clear e0 e1 e2 HLIM hL9 hF9 hW9
          obtain ⟨Ao1, co1, eo1⟩ := Kd.N_slice HS.out.2.1
          subst eo1
          obtain ⟨Ao2, co2, eo2⟩ := Kd.R_slice HS.out.2.2.1
          subst eo2
          obtain ⟨Ao3, co3, eo3⟩ := Kd.R_slice HS.out.2.2.2
          subst eo3
          have hng := HNR.out
          have hnh := Ne.symm HNR.out
          have ca0 : wr.cell? ⟨gO, 0, none⟩ = some (.slice Ao1 L9.length co1) := (blk_cell HS.out.1 0).trans rfl
          have ca1 : wr.cell? ⟨gO, 1, none⟩ = some (.slice Ao2 F9.length co2) := (blk_cell HS.out.1 1).trans rfl
          have ca2 : wr.cell? ⟨gO, 2, none⟩ = some (.slice Ao3 W9.length co3) := (blk_cell HS.out.1 2).trans rfl
          have cf0 := blk_frozen HS.out.1 0
          have cf1 := blk_frozen HS.out.1 1
          have cf2 := blk_frozen HS.out.1 2
          have cr0 : wr.cell? ⟨gr, 0, none⟩ = some (.slice none 0 0) := (blk_cell HR.out 0).trans rfl
          have cr1 : wr.cell? ⟨gr, 1, none⟩ = some (.slice none 0 0) := (blk_cell HR.out 1).trans rfl
          have cr2 : wr.cell? ⟨gr, 2, none⟩ = some (.slice none 0 0) := (blk_cell HR.out 2).trans rfl
          have cz0 := blk_frozen HR.out 0
          have cz1 := blk_frozen HR.out 1
          have cz2 := blk_frozen HR.out 2
          have HFR := Aside0.mk (show ∀ k, gO < k → k ≠ gr by have h1 := GO.out; intro k hk; omega)
          have HLO := Aside0.mk (show ∀ k, gO < k → w.heap.size ≤ k by have h1 := HGG.out; intro k hk; omega)
          go_wp2
          refine bodyPost_ret (results_ct rfl _ _ gr 26 #[.slice Ao1 L9.length co1, .slice Ao2 F9.length co2, .slice Ao3 W9.length co3] (0, 0) _ rfl (request_Join.three HR.out) Tryd.underlying26 rfl (by kernel_rfl)) rfl ?_
          refine ⟨_, _, _, rfl, ?_, ?_, ?_, below_set (below_set (below_set HBl.out HGE.out) HGE.out) HGE.out⟩
          · rw [H9.out.1]
            exact Kd.N_mono (Kd.N_far (p := ⟨gr, 2, none⟩) (Kd.N_far (p := ⟨gr, 1, none⟩) (Kd.N_far (p := ⟨gr, 0, none⟩) HS.out.2.1 (fun k hk => HFR.out k hk.1) _) (fun k hk => HFR.out k hk.1) _) (fun k hk => HFR.out k hk.1) _) (fun k hk => ⟨HLO.out k hk.1, hk.2⟩)
          · rw [H9.out.2.1]
            exact Kd.R_mono (Kd.R_far (p := ⟨gr, 2, none⟩) (Kd.R_far (p := ⟨gr, 1, none⟩) (Kd.R_far (p := ⟨gr, 0, none⟩) HS.out.2.2.1 (fun k hk => HFR.out k hk) _) (fun k hk => HFR.out k hk) _) (fun k hk => HFR.out k hk) _) (fun k hk => HLO.out k hk)
          · rw [H9.out.2.2]
            exact Kd.R_mono (Kd.R_far (p := ⟨gr, 2, none⟩) (Kd.R_far (p := ⟨gr, 1, none⟩) (Kd.R_far (p := ⟨gr, 0, none⟩) HS.out.2.2.2 (fun k hk => HFR.out k hk) _) (fun k hk => HFR.out k hk) _) (fun k hk => HFR.out k hk) _) (fun k hk => HLO.out k hk)
def depotref22_Name.l0 : Nat → ByteArray → Int → Option (Bool)
 | 0, _, _ => none
 | k + 1, x0, x3 => if x3 < (x0.size : Int) then (if 0 ≤ x3 then (if (bt x0 x3) ≥ 97 then (if (bt x0 x3) ≤ 122 then (depotref22_Name.l0 k x0 (wrap64 (x3 + 1))) else (if (bt x0 x3) ≥ 48 then (if ((bt x0 x3) ≤ 57) then (depotref22_Name.l0 k x0 (wrap64 (x3 + 1))) else (if x3 = 0 then (some false) else (if (bt x0 x3) = 43 then (depotref22_Name.l0 k x0 (wrap64 (x3 + 1))) else (if (bt x0 x3) = 45 then (depotref22_Name.l0 k x0 (wrap64 (x3 + 1))) else (if (bt x0 x3) = 46 then (depotref22_Name.l0 k x0 (wrap64 (x3 + 1))) else (some false)))))) else (if x3 = 0 then (some false) else (if (bt x0 x3) = 43 then (depotref22_Name.l0 k x0 (wrap64 (x3 + 1))) else (if (bt x0 x3) = 45 then (depotref22_Name.l0 k x0 (wrap64 (x3 + 1))) else (if (bt x0 x3) = 46 then (depotref22_Name.l0 k x0 (wrap64 (x3 + 1))) else (some false))))))) else (if (bt x0 x3) ≥ 48 then (if ((bt x0 x3) ≤ 57) then (depotref22_Name.l0 k x0 (wrap64 (x3 + 1))) else (if x3 = 0 then (some false) else (if (bt x0 x3) = 43 then (depotref22_Name.l0 k x0 (wrap64 (x3 + 1))) else (if (bt x0 x3) = 45 then (depotref22_Name.l0 k x0 (wrap64 (x3 + 1))) else (if (bt x0 x3) = 46 then (depotref22_Name.l0 k x0 (wrap64 (x3 + 1))) else (some false)))))) else (if x3 = 0 then (some false) else (if (bt x0 x3) = 43 then (depotref22_Name.l0 k x0 (wrap64 (x3 + 1))) else (if (bt x0 x3) = 45 then (depotref22_Name.l0 k x0 (wrap64 (x3 + 1))) else (if (bt x0 x3) = 46 then (depotref22_Name.l0 k x0 (wrap64 (x3 + 1))) else (some false))))))) else (none)) else (some true)
def depotref22_Name.f (k : Nat) (a0 : ByteArray) : Option (Bool) := if (a0.size : Int) < 2 then (some false) else (depotref22_Name.l0 k a0 0)
theorem depotref22_Name.mono_l : ∀ k, (∀ y0 y1, LeO (depotref22_Name.l0 k y0 y1) (depotref22_Name.l0 (k + 1) y0 y1))
 | 0 => fun _ _ r h => by simp [depotref22_Name.l0] at h
 | k + 1 => by
  have ih0 := depotref22_Name.mono_l k
  ·intro y0 y1
   unfold depotref22_Name.l0
   repeat' first
   | (with_reducible exact ih0 _ _)
   | (with_reducible exact LeO.refl _)
   | (with_reducible exact LeO.none _)
   | (with_reducible refine LeO.ite ?_ ?_)
   | (with_reducible refine LeO.bind ?_ (fun _ => ?_))
   | exact ih0 _ _
   | exact LeO.none _
   | refine LeO.ite ?_ ?_
   | refine LeO.bind ?_ (fun _ => ?_)
theorem depotref22_Name.mono : ∀ a0 k, LeO (depotref22_Name.f k a0) (depotref22_Name.f (k + 1) a0) := by
 intro a0 k
 have ih0 := depotref22_Name.mono_l k
 unfold depotref22_Name.f
 repeat' first
   | (with_reducible exact ih0 _ _)
   | (with_reducible exact LeO.refl _)
   | (with_reducible exact LeO.none _)
   | (with_reducible refine LeO.ite ?_ ?_)
   | (with_reducible refine LeO.bind ?_ (fun _ => ?_))
   | exact ih0 _ _
   | exact LeO.none _
   | refine LeO.ite ?_ ?_
   | refine LeO.bind ?_ (fun _ => ?_)
set_option maxHeartbeats 8000000 in
set_option maxRecDepth 100000 in
theorem depotref22_Name.calls (k : Nat) (a0 : ByteArray) (r : Bool) (w : World) (h : depotref22_Name.f k a0 = some r) :
  Calls Tryd.prog 51 #[.string a0] w fun e w' => e = .returned (.bool r) ∧ Drawn0 w w' := by
 have H : (if (a0.size : Int) < 2 then (some false) else (depotref22_Name.l0 k a0 0)) = some r := h
 clear h
 by_cases c2 : (a0.size : Int) < 2
 ·rw [if_pos c2] at H
  have c2b0 : decide ((a0.size : Int) < 2) = true := decide_eq_true c2
  have c2b1 : decide (a0.size < 2) = true := decide_eq_true (by omega)
  clear c2
  obtain rfl := Option.some.inj H
  go_enter Tryd.func51, Tryd.ntmps51
  go_wp2
  go_ret
  exact ⟨by first | rfl | (simp; done) | (simp [*]; done), by repeat (first | exact Drawn0.refl _ | apply Drawn0.step)⟩
 ·rw [if_neg c2] at H
  have c2b0 : decide ((a0.size : Int) < 2) = false := decide_eq_false c2
  have c2b1 : decide (a0.size < 2) = false := decide_eq_false (by omega)
  clear c2
  have H' := Aside0.mk H
  clear H
  go_enter Tryd.func51, Tryd.ntmps51
  go_wp2
  go_loopg [3] k (fun kq v3 w' => ∃ (x3_1 : Int), v3 = .int .i64 x3_1 ∧ Aside0 (depotref22_Name.l0 kq a0 x3_1 = some r) ∧ Aside0 (kq ≤ k) ∧ Drawn0 w w')
  case atStart => exact ⟨(0), (by first | rfl | (simp; done) | (simp [*]; done)), H', ⟨Nat.le_refl _⟩, by repeat (first | exact Drawn0.refl _ | apply Drawn0.step)⟩
  case round =>
   clear H'
   try clear c2
   try clear c2b0
   try clear c2b1
   try clear p2
   obtain ⟨x3_1, rfl, HA, HK1, ⟨m1, rfl⟩⟩ := hrel
   cases gk with
   | zero => exact absurd HA.out (by simp [depotref22_Name.l0])
   | succ k1 =>
    have H := HA.out
    clear HA
    simp only [depotref22_Name.l0] at H
    by_cases c3 : x3_1 < (a0.size : Int)
    ·rw [if_pos c3] at H
     have c3b0 : decide (x3_1 < (a0.size : Int)) = true := decide_eq_true c3
     clear c3
     by_cases c4 : 0 ≤ x3_1
     ·rw [if_pos c4] at H
      have c4b0 : decide (0 ≤ x3_1) = true := decide_eq_true c4
      clear c4
      by_cases c6 : (bt a0 x3_1) ≥ 97
      ·rw [if_pos c6] at H
       have c6b0 : decide (97 ≤ (bt a0 x3_1)) = true := decide_eq_true c6
       clear c6
       by_cases c7 : (bt a0 x3_1) ≤ 122
       ·rw [if_pos c7] at H
        have c7b0 : decide ((bt a0 x3_1) ≤ 122) = true := decide_eq_true c7
        clear c7
        have H' := Aside0.mk H
        clear H
        have p5 : 0 ≤ (x3_1 : Int) := of_decide_eq_true (by first | (with_reducible assumption) | assumption)
        have q5 : x3_1 < (a0.size : Int) := of_decide_eq_true (by first | (with_reducible assumption) | assumption)
        have hx5 := bt_at a0 x3_1
        replace p5 := eq_true p5
        replace q5 := eq_true q5
        go_wp2
        go_roundg k1
        case measure => have := HK1.out; omega
        case rel => exact ⟨(wrap64 (x3_1 + 1)), (by first | rfl | (simp; done) | (simp [*]; done)), H', ⟨by have := HK1.out; omega⟩, by repeat (first | exact Drawn0.refl _ | apply Drawn0.step)⟩
       ·rw [if_neg c7] at H
        have c7b0 : decide ((bt a0 x3_1) ≤ 122) = false := decide_eq_false c7
        clear c7
        by_cases c8 : (bt a0 x3_1) ≥ 48
        ·rw [if_pos c8] at H
         have c8b0 : decide (48 ≤ (bt a0 x3_1)) = true := decide_eq_true c8
         clear c8
         by_cases c9 : ((bt a0 x3_1) ≤ 57)
         ·rw [if_pos c9] at H
          have c9b0 : decide ((bt a0 x3_1) ≤ 57) = true := decide_eq_true c9
          clear c9
          have H' := Aside0.mk H
          clear H
          have p5 : 0 ≤ (x3_1 : Int) := of_decide_eq_true (by first | (with_reducible assumption) | assumption)
          have q5 : x3_1 < (a0.size : Int) := of_decide_eq_true (by first | (with_reducible assumption) | assumption)
          have hx5 := bt_at a0 x3_1
          replace p5 := eq_true p5
          replace q5 := eq_true q5
          go_wp2
          go_roundg k1
          case measure => have := HK1.out; omega
          case rel => exact ⟨(wrap64 (x3_1 + 1)), (by first | rfl | (simp; done) | (simp [*]; done)), H', ⟨by have := HK1.out; omega⟩, by repeat (first | exact Drawn0.refl _ | apply Drawn0.step)⟩
         ·rw [if_neg c9] at H
          have c9b0 : decide ((bt a0 x3_1) ≤ 57) = false := decide_eq_false c9
          clear c9
          by_cases c10 : x3_1 = 0
          ·rw [if_pos c10] at H
           have c10b0 : (x3_1 == 0) = true := beq_iff_eq.mpr c10
           have c10b1 : (x3_1 != 0) = false := bne_eq_false_iff_eq.mpr c10
           clear c10
           obtain rfl := Option.some.inj H
           have p5 : 0 ≤ (x3_1 : Int) := of_decide_eq_true (by first | (with_reducible assumption) | assumption)
           have q5 : x3_1 < (a0.size : Int) := of_decide_eq_true (by first | (with_reducible assumption) | assumption)
           have hx5 := bt_at a0 x3_1
           replace p5 := eq_true p5
           replace q5 := eq_true q5
           go_wp2
           go_ret
           exact ⟨by first | rfl | (simp; done) | (simp [*]; done), by repeat (first | exact Drawn0.refl _ | apply Drawn0.step)⟩
          ·rw [if_neg c10] at H
           have c10b0 : (x3_1 == 0) = false := beq_eq_false_iff_ne.mpr c10
           have c10b1 : (x3_1 != 0) = true := bne_iff_ne.mpr c10
           by_cases c11 : (bt a0 x3_1) = 43
           ·rw [if_pos c11] at H
            have c11b0 : ((bt a0 x3_1) == 43) = true := beq_iff_eq.mpr c11
            have c11b1 : ((bt a0 x3_1) != 43) = false := bne_eq_false_iff_eq.mpr c11
            clear c11
            have H' := Aside0.mk H
            clear H
            have p5 : 0 ≤ (x3_1 : Int) := of_decide_eq_true (by first | (with_reducible assumption) | assumption)
            have q5 : x3_1 < (a0.size : Int) := of_decide_eq_true (by first | (with_reducible assumption) | assumption)
            have hx5 := bt_at a0 x3_1
            replace p5 := eq_true p5
            replace q5 := eq_true q5
            go_wp2
            go_roundg k1
            case measure => have := HK1.out; omega
            case rel => exact ⟨(wrap64 (x3_1 + 1)), (by first | rfl | (simp; done) | (simp [*]; done)), H', ⟨by have := HK1.out; omega⟩, by repeat (first | exact Drawn0.refl _ | apply Drawn0.step)⟩
           ·rw [if_neg c11] at H
            have c11b0 : ((bt a0 x3_1) == 43) = false := beq_eq_false_iff_ne.mpr c11
            have c11b1 : ((bt a0 x3_1) != 43) = true := bne_iff_ne.mpr c11
            by_cases c12 : (bt a0 x3_1) = 45
            ·rw [if_pos c12] at H
             have c12b0 : ((bt a0 x3_1) == 45) = true := beq_iff_eq.mpr c12
             have c12b1 : ((bt a0 x3_1) != 45) = false := bne_eq_false_iff_eq.mpr c12
             clear c12
             have H' := Aside0.mk H
             clear H
             have p5 : 0 ≤ (x3_1 : Int) := of_decide_eq_true (by first | (with_reducible assumption) | assumption)
             have q5 : x3_1 < (a0.size : Int) := of_decide_eq_true (by first | (with_reducible assumption) | assumption)
             have hx5 := bt_at a0 x3_1
             replace p5 := eq_true p5
             replace q5 := eq_true q5
             go_wp2
             go_roundg k1
             case measure => have := HK1.out; omega
             case rel => exact ⟨(wrap64 (x3_1 + 1)), (by first | rfl | (simp; done) | (simp [*]; done)), H', ⟨by have := HK1.out; omega⟩, by repeat (first | exact Drawn0.refl _ | apply Drawn0.step)⟩
            ·rw [if_neg c12] at H
             have c12b0 : ((bt a0 x3_1) == 45) = false := beq_eq_false_iff_ne.mpr c12
             have c12b1 : ((bt a0 x3_1) != 45) = true := bne_iff_ne.mpr c12
             by_cases c13 : (bt a0 x3_1) = 46
             ·rw [if_pos c13] at H
              have c13b0 : ((bt a0 x3_1) == 46) = true := beq_iff_eq.mpr c13
              have c13b1 : ((bt a0 x3_1) != 46) = false := bne_eq_false_iff_eq.mpr c13
              clear c13
              have H' := Aside0.mk H
              clear H
              have p5 : 0 ≤ (x3_1 : Int) := of_decide_eq_true (by first | (with_reducible assumption) | assumption)
              have q5 : x3_1 < (a0.size : Int) := of_decide_eq_true (by first | (with_reducible assumption) | assumption)
              have hx5 := bt_at a0 x3_1
              replace p5 := eq_true p5
              replace q5 := eq_true q5
              go_wp2
              go_roundg k1
              case measure => have := HK1.out; omega
              case rel => exact ⟨(wrap64 (x3_1 + 1)), (by first | rfl | (simp; done) | (simp [*]; done)), H', ⟨by have := HK1.out; omega⟩, by repeat (first | exact Drawn0.refl _ | apply Drawn0.step)⟩
             ·rw [if_neg c13] at H
              have c13b0 : ((bt a0 x3_1) == 46) = false := beq_eq_false_iff_ne.mpr c13
              have c13b1 : ((bt a0 x3_1) != 46) = true := bne_iff_ne.mpr c13
              obtain rfl := Option.some.inj H
              have p5 : 0 ≤ (x3_1 : Int) := of_decide_eq_true (by first | (with_reducible assumption) | assumption)
              have q5 : x3_1 < (a0.size : Int) := of_decide_eq_true (by first | (with_reducible assumption) | assumption)
              have hx5 := bt_at a0 x3_1
              replace p5 := eq_true p5
              replace q5 := eq_true q5
              go_wp2
              go_ret
              exact ⟨by first | rfl | (simp; done) | (simp [*]; done), by repeat (first | exact Drawn0.refl _ | apply Drawn0.step)⟩
        ·rw [if_neg c8] at H
         have c8b0 : decide (48 ≤ (bt a0 x3_1)) = false := decide_eq_false c8
         clear c8
         by_cases c14 : x3_1 = 0
         ·rw [if_pos c14] at H
          have c14b0 : (x3_1 == 0) = true := beq_iff_eq.mpr c14
          have c14b1 : (x3_1 != 0) = false := bne_eq_false_iff_eq.mpr c14
          clear c14
          obtain rfl := Option.some.inj H
          have p5 : 0 ≤ (x3_1 : Int) := of_decide_eq_true (by first | (with_reducible assumption) | assumption)
          have q5 : x3_1 < (a0.size : Int) := of_decide_eq_true (by first | (with_reducible assumption) | assumption)
          have hx5 := bt_at a0 x3_1
          replace p5 := eq_true p5
          replace q5 := eq_true q5
          go_wp2
          go_ret
          exact ⟨by first | rfl | (simp; done) | (simp [*]; done), by repeat (first | exact Drawn0.refl _ | apply Drawn0.step)⟩
         ·rw [if_neg c14] at H
          have c14b0 : (x3_1 == 0) = false := beq_eq_false_iff_ne.mpr c14
          have c14b1 : (x3_1 != 0) = true := bne_iff_ne.mpr c14
          by_cases c15 : (bt a0 x3_1) = 43
          ·rw [if_pos c15] at H
           have c15b0 : ((bt a0 x3_1) == 43) = true := beq_iff_eq.mpr c15
           have c15b1 : ((bt a0 x3_1) != 43) = false := bne_eq_false_iff_eq.mpr c15
           clear c15
           have H' := Aside0.mk H
           clear H
           have p5 : 0 ≤ (x3_1 : Int) := of_decide_eq_true (by first | (with_reducible assumption) | assumption)
           have q5 : x3_1 < (a0.size : Int) := of_decide_eq_true (by first | (with_reducible assumption) | assumption)
           have hx5 := bt_at a0 x3_1
           replace p5 := eq_true p5
           replace q5 := eq_true q5
           go_wp2
           go_roundg k1
           case measure => have := HK1.out; omega
           case rel => exact ⟨(wrap64 (x3_1 + 1)), (by first | rfl | (simp; done) | (simp [*]; done)), H', ⟨by have := HK1.out; omega⟩, by repeat (first | exact Drawn0.refl _ | apply Drawn0.step)⟩
          ·rw [if_neg c15] at H
           have c15b0 : ((bt a0 x3_1) == 43) = false := beq_eq_false_iff_ne.mpr c15
           have c15b1 : ((bt a0 x3_1) != 43) = true := bne_iff_ne.mpr c15
           by_cases c16 : (bt a0 x3_1) = 45
           ·rw [if_pos c16] at H
            have c16b0 : ((bt a0 x3_1) == 45) = true := beq_iff_eq.mpr c16
            have c16b1 : ((bt a0 x3_1) != 45) = false := bne_eq_false_iff_eq.mpr c16
            clear c16
            have H' := Aside0.mk H
            clear H
            have p5 : 0 ≤ (x3_1 : Int) := of_decide_eq_true (by first | (with_reducible assumption) | assumption)
            have q5 : x3_1 < (a0.size : Int) := of_decide_eq_true (by first | (with_reducible assumption) | assumption)
            have hx5 := bt_at a0 x3_1
            replace p5 := eq_true p5
            replace q5 := eq_true q5
            go_wp2
            go_roundg k1
            case measure => have := HK1.out; omega
            case rel => exact ⟨(wrap64 (x3_1 + 1)), (by first | rfl | (simp; done) | (simp [*]; done)), H', ⟨by have := HK1.out; omega⟩, by repeat (first | exact Drawn0.refl _ | apply Drawn0.step)⟩
           ·rw [if_neg c16] at H
            have c16b0 : ((bt a0 x3_1) == 45) = false := beq_eq_false_iff_ne.mpr c16
            have c16b1 : ((bt a0 x3_1) != 45) = true := bne_iff_ne.mpr c16
            by_cases c17 : (bt a0 x3_1) = 46
            ·rw [if_pos c17] at H
             have c17b0 : ((bt a0 x3_1) == 46) = true := beq_iff_eq.mpr c17
             have c17b1 : ((bt a0 x3_1) != 46) = false := bne_eq_false_iff_eq.mpr c17
             clear c17
             have H' := Aside0.mk H
             clear H
             have p5 : 0 ≤ (x3_1 : Int) := of_decide_eq_true (by first | (with_reducible assumption) | assumption)
             have q5 : x3_1 < (a0.size : Int) := of_decide_eq_true (by first | (with_reducible assumption) | assumption)
             have hx5 := bt_at a0 x3_1
             replace p5 := eq_true p5
             replace q5 := eq_true q5
             go_wp2
             go_roundg k1
             case measure => have := HK1.out; omega
             case rel => exact ⟨(wrap64 (x3_1 + 1)), (by first | rfl | (simp; done) | (simp [*]; done)), H', ⟨by have := HK1.out; omega⟩, by repeat (first | exact Drawn0.refl _ | apply Drawn0.step)⟩
            ·rw [if_neg c17] at H
             have c17b0 : ((bt a0 x3_1) == 46) = false := beq_eq_false_iff_ne.mpr c17
             have c17b1 : ((bt a0 x3_1) != 46) = true := bne_iff_ne.mpr c17
             obtain rfl := Option.some.inj H
             have p5 : 0 ≤ (x3_1 : Int) := of_decide_eq_true (by first | (with_reducible assumption) | assumption)
             have q5 : x3_1 < (a0.size : Int) := of_decide_eq_true (by first | (with_reducible assumption) | assumption)
             have hx5 := bt_at a0 x3_1
             replace p5 := eq_true p5
             replace q5 := eq_true q5
             go_wp2
             go_ret
             exact ⟨by first | rfl | (simp; done) | (simp [*]; done), by repeat (first | exact Drawn0.refl _ | apply Drawn0.step)⟩
      ·rw [if_neg c6] at H
       have c6b0 : decide (97 ≤ (bt a0 x3_1)) = false := decide_eq_false c6
       clear c6
       by_cases c18 : (bt a0 x3_1) ≥ 48
       ·rw [if_pos c18] at H
        have c18b0 : decide (48 ≤ (bt a0 x3_1)) = true := decide_eq_true c18
        clear c18
        by_cases c19 : ((bt a0 x3_1) ≤ 57)
        ·rw [if_pos c19] at H
         have c19b0 : decide ((bt a0 x3_1) ≤ 57) = true := decide_eq_true c19
         clear c19
         have H' := Aside0.mk H
         clear H
         have p5 : 0 ≤ (x3_1 : Int) := of_decide_eq_true (by first | (with_reducible assumption) | assumption)
         have q5 : x3_1 < (a0.size : Int) := of_decide_eq_true (by first | (with_reducible assumption) | assumption)
         have hx5 := bt_at a0 x3_1
         replace p5 := eq_true p5
         replace q5 := eq_true q5
         go_wp2
         go_roundg k1
         case measure => have := HK1.out; omega
         case rel => exact ⟨(wrap64 (x3_1 + 1)), (by first | rfl | (simp; done) | (simp [*]; done)), H', ⟨by have := HK1.out; omega⟩, by repeat (first | exact Drawn0.refl _ | apply Drawn0.step)⟩
        ·rw [if_neg c19] at H
         have c19b0 : decide ((bt a0 x3_1) ≤ 57) = false := decide_eq_false c19
         clear c19
         by_cases c20 : x3_1 = 0
         ·rw [if_pos c20] at H
          have c20b0 : (x3_1 == 0) = true := beq_iff_eq.mpr c20
          have c20b1 : (x3_1 != 0) = false := bne_eq_false_iff_eq.mpr c20
          clear c20
          obtain rfl := Option.some.inj H
          have p5 : 0 ≤ (x3_1 : Int) := of_decide_eq_true (by first | (with_reducible assumption) | assumption)
          have q5 : x3_1 < (a0.size : Int) := of_decide_eq_true (by first | (with_reducible assumption) | assumption)
          have hx5 := bt_at a0 x3_1
          replace p5 := eq_true p5
          replace q5 := eq_true q5
          go_wp2
          go_ret
          exact ⟨by first | rfl | (simp; done) | (simp [*]; done), by repeat (first | exact Drawn0.refl _ | apply Drawn0.step)⟩
         ·rw [if_neg c20] at H
          have c20b0 : (x3_1 == 0) = false := beq_eq_false_iff_ne.mpr c20
          have c20b1 : (x3_1 != 0) = true := bne_iff_ne.mpr c20
          by_cases c21 : (bt a0 x3_1) = 43
          ·rw [if_pos c21] at H
           have c21b0 : ((bt a0 x3_1) == 43) = true := beq_iff_eq.mpr c21
           have c21b1 : ((bt a0 x3_1) != 43) = false := bne_eq_false_iff_eq.mpr c21
           clear c21
           have H' := Aside0.mk H
           clear H
           have p5 : 0 ≤ (x3_1 : Int) := of_decide_eq_true (by first | (with_reducible assumption) | assumption)
           have q5 : x3_1 < (a0.size : Int) := of_decide_eq_true (by first | (with_reducible assumption) | assumption)
           have hx5 := bt_at a0 x3_1
           replace p5 := eq_true p5
           replace q5 := eq_true q5
           go_wp2
           go_roundg k1
           case measure => have := HK1.out; omega
           case rel => exact ⟨(wrap64 (x3_1 + 1)), (by first | rfl | (simp; done) | (simp [*]; done)), H', ⟨by have := HK1.out; omega⟩, by repeat (first | exact Drawn0.refl _ | apply Drawn0.step)⟩
          ·rw [if_neg c21] at H
           have c21b0 : ((bt a0 x3_1) == 43) = false := beq_eq_false_iff_ne.mpr c21
           have c21b1 : ((bt a0 x3_1) != 43) = true := bne_iff_ne.mpr c21
           by_cases c22 : (bt a0 x3_1) = 45
           ·rw [if_pos c22] at H
            have c22b0 : ((bt a0 x3_1) == 45) = true := beq_iff_eq.mpr c22
            have c22b1 : ((bt a0 x3_1) != 45) = false := bne_eq_false_iff_eq.mpr c22
            clear c22
            have H' := Aside0.mk H
            clear H
            have p5 : 0 ≤ (x3_1 : Int) := of_decide_eq_true (by first | (with_reducible assumption) | assumption)
            have q5 : x3_1 < (a0.size : Int) := of_decide_eq_true (by first | (with_reducible assumption) | assumption)
            have hx5 := bt_at a0 x3_1
            replace p5 := eq_true p5
            replace q5 := eq_true q5
            go_wp2
            go_roundg k1
            case measure => have := HK1.out; omega
            case rel => exact ⟨(wrap64 (x3_1 + 1)), (by first | rfl | (simp; done) | (simp [*]; done)), H', ⟨by have := HK1.out; omega⟩, by repeat (first | exact Drawn0.refl _ | apply Drawn0.step)⟩
           ·rw [if_neg c22] at H
            have c22b0 : ((bt a0 x3_1) == 45) = false := beq_eq_false_iff_ne.mpr c22
            have c22b1 : ((bt a0 x3_1) != 45) = true := bne_iff_ne.mpr c22
            by_cases c23 : (bt a0 x3_1) = 46
            ·rw [if_pos c23] at H
             have c23b0 : ((bt a0 x3_1) == 46) = true := beq_iff_eq.mpr c23
             have c23b1 : ((bt a0 x3_1) != 46) = false := bne_eq_false_iff_eq.mpr c23
             clear c23
             have H' := Aside0.mk H
             clear H
             have p5 : 0 ≤ (x3_1 : Int) := of_decide_eq_true (by first | (with_reducible assumption) | assumption)
             have q5 : x3_1 < (a0.size : Int) := of_decide_eq_true (by first | (with_reducible assumption) | assumption)
             have hx5 := bt_at a0 x3_1
             replace p5 := eq_true p5
             replace q5 := eq_true q5
             go_wp2
             go_roundg k1
             case measure => have := HK1.out; omega
             case rel => exact ⟨(wrap64 (x3_1 + 1)), (by first | rfl | (simp; done) | (simp [*]; done)), H', ⟨by have := HK1.out; omega⟩, by repeat (first | exact Drawn0.refl _ | apply Drawn0.step)⟩
            ·rw [if_neg c23] at H
             have c23b0 : ((bt a0 x3_1) == 46) = false := beq_eq_false_iff_ne.mpr c23
             have c23b1 : ((bt a0 x3_1) != 46) = true := bne_iff_ne.mpr c23
             obtain rfl := Option.some.inj H
             have p5 : 0 ≤ (x3_1 : Int) := of_decide_eq_true (by first | (with_reducible assumption) | assumption)
             have q5 : x3_1 < (a0.size : Int) := of_decide_eq_true (by first | (with_reducible assumption) | assumption)
             have hx5 := bt_at a0 x3_1
             replace p5 := eq_true p5
             replace q5 := eq_true q5
             go_wp2
             go_ret
             exact ⟨by first | rfl | (simp; done) | (simp [*]; done), by repeat (first | exact Drawn0.refl _ | apply Drawn0.step)⟩
       ·rw [if_neg c18] at H
        have c18b0 : decide (48 ≤ (bt a0 x3_1)) = false := decide_eq_false c18
        clear c18
        by_cases c24 : x3_1 = 0
        ·rw [if_pos c24] at H
         have c24b0 : (x3_1 == 0) = true := beq_iff_eq.mpr c24
         have c24b1 : (x3_1 != 0) = false := bne_eq_false_iff_eq.mpr c24
         clear c24
         obtain rfl := Option.some.inj H
         have p5 : 0 ≤ (x3_1 : Int) := of_decide_eq_true (by first | (with_reducible assumption) | assumption)
         have q5 : x3_1 < (a0.size : Int) := of_decide_eq_true (by first | (with_reducible assumption) | assumption)
         have hx5 := bt_at a0 x3_1
         replace p5 := eq_true p5
         replace q5 := eq_true q5
         go_wp2
         go_ret
         exact ⟨by first | rfl | (simp; done) | (simp [*]; done), by repeat (first | exact Drawn0.refl _ | apply Drawn0.step)⟩
        ·rw [if_neg c24] at H
         have c24b0 : (x3_1 == 0) = false := beq_eq_false_iff_ne.mpr c24
         have c24b1 : (x3_1 != 0) = true := bne_iff_ne.mpr c24
         by_cases c25 : (bt a0 x3_1) = 43
         ·rw [if_pos c25] at H
          have c25b0 : ((bt a0 x3_1) == 43) = true := beq_iff_eq.mpr c25
          have c25b1 : ((bt a0 x3_1) != 43) = false := bne_eq_false_iff_eq.mpr c25
          clear c25
          have H' := Aside0.mk H
          clear H
          have p5 : 0 ≤ (x3_1 : Int) := of_decide_eq_true (by first | (with_reducible assumption) | assumption)
          have q5 : x3_1 < (a0.size : Int) := of_decide_eq_true (by first | (with_reducible assumption) | assumption)
          have hx5 := bt_at a0 x3_1
          replace p5 := eq_true p5
          replace q5 := eq_true q5
          go_wp2
          go_roundg k1
          case measure => have := HK1.out; omega
          case rel => exact ⟨(wrap64 (x3_1 + 1)), (by first | rfl | (simp; done) | (simp [*]; done)), H', ⟨by have := HK1.out; omega⟩, by repeat (first | exact Drawn0.refl _ | apply Drawn0.step)⟩
         ·rw [if_neg c25] at H
          have c25b0 : ((bt a0 x3_1) == 43) = false := beq_eq_false_iff_ne.mpr c25
          have c25b1 : ((bt a0 x3_1) != 43) = true := bne_iff_ne.mpr c25
          by_cases c26 : (bt a0 x3_1) = 45
          ·rw [if_pos c26] at H
           have c26b0 : ((bt a0 x3_1) == 45) = true := beq_iff_eq.mpr c26
           have c26b1 : ((bt a0 x3_1) != 45) = false := bne_eq_false_iff_eq.mpr c26
           clear c26
           have H' := Aside0.mk H
           clear H
           have p5 : 0 ≤ (x3_1 : Int) := of_decide_eq_true (by first | (with_reducible assumption) | assumption)
           have q5 : x3_1 < (a0.size : Int) := of_decide_eq_true (by first | (with_reducible assumption) | assumption)
           have hx5 := bt_at a0 x3_1
           replace p5 := eq_true p5
           replace q5 := eq_true q5
           go_wp2
           go_roundg k1
           case measure => have := HK1.out; omega
           case rel => exact ⟨(wrap64 (x3_1 + 1)), (by first | rfl | (simp; done) | (simp [*]; done)), H', ⟨by have := HK1.out; omega⟩, by repeat (first | exact Drawn0.refl _ | apply Drawn0.step)⟩
          ·rw [if_neg c26] at H
           have c26b0 : ((bt a0 x3_1) == 45) = false := beq_eq_false_iff_ne.mpr c26
           have c26b1 : ((bt a0 x3_1) != 45) = true := bne_iff_ne.mpr c26
           by_cases c27 : (bt a0 x3_1) = 46
           ·rw [if_pos c27] at H
            have c27b0 : ((bt a0 x3_1) == 46) = true := beq_iff_eq.mpr c27
            have c27b1 : ((bt a0 x3_1) != 46) = false := bne_eq_false_iff_eq.mpr c27
            clear c27
            have H' := Aside0.mk H
            clear H
            have p5 : 0 ≤ (x3_1 : Int) := of_decide_eq_true (by first | (with_reducible assumption) | assumption)
            have q5 : x3_1 < (a0.size : Int) := of_decide_eq_true (by first | (with_reducible assumption) | assumption)
            have hx5 := bt_at a0 x3_1
            replace p5 := eq_true p5
            replace q5 := eq_true q5
            go_wp2
            go_roundg k1
            case measure => have := HK1.out; omega
            case rel => exact ⟨(wrap64 (x3_1 + 1)), (by first | rfl | (simp; done) | (simp [*]; done)), H', ⟨by have := HK1.out; omega⟩, by repeat (first | exact Drawn0.refl _ | apply Drawn0.step)⟩
           ·rw [if_neg c27] at H
            have c27b0 : ((bt a0 x3_1) == 46) = false := beq_eq_false_iff_ne.mpr c27
            have c27b1 : ((bt a0 x3_1) != 46) = true := bne_iff_ne.mpr c27
            obtain rfl := Option.some.inj H
            have p5 : 0 ≤ (x3_1 : Int) := of_decide_eq_true (by first | (with_reducible assumption) | assumption)
            have q5 : x3_1 < (a0.size : Int) := of_decide_eq_true (by first | (with_reducible assumption) | assumption)
            have hx5 := bt_at a0 x3_1
            replace p5 := eq_true p5
            replace q5 := eq_true q5
            go_wp2
            go_ret
            exact ⟨by first | rfl | (simp; done) | (simp [*]; done), by repeat (first | exact Drawn0.refl _ | apply Drawn0.step)⟩
     ·rw [if_neg c4] at H
      exact absurd H (by simp)
    ·rw [if_neg c3] at H
     have c3b0 : decide (x3_1 < (a0.size : Int)) = false := decide_eq_false c3
     clear c3
     obtain rfl := Option.some.inj H
     go_wp2
     go_ret
     exact ⟨by first | rfl | (simp; done) | (simp [*]; done), by repeat (first | exact Drawn0.refl _ | apply Drawn0.step)⟩
end Go.Proofs.YtmocooihkobdjaaDoor.E
end
section
namespace Go.Proofs.YtmocooihkobdjaaDoor.E
open Go.RowKit Go.Proofs.YtmocooihkobdjaaDoorW.PrintWords Go.Proofs.YtmocooihkobdjaaDoorW.PrintLast Go.Proofs.YtmocooihkobdjaaDoorW.PrintMore
attribute [local go_sem] max2_int min2_int max_two min_two max_three min_three max_four min_four
set_option linter.unusedVariables false
set_option linter.unusedSimpArgs false
def depotref22_Sign.f (a0 : Int) : Option (ByteArray) := if a0 = 1 then (some (⟨#[60, 60]⟩ : ByteArray)) else (if a0 = 2 then (some (⟨#[60, 61]⟩ : ByteArray)) else (if a0 = 3 then (some (⟨#[61]⟩ : ByteArray)) else (if a0 = 4 then (some (⟨#[62, 61]⟩ : ByteArray)) else (if a0 = 5 then (some (⟨#[62, 62]⟩ : ByteArray)) else (some (⟨#[]⟩ : ByteArray))))))
set_option maxHeartbeats 8000000 in
set_option maxRecDepth 100000 in
theorem depotref22_Sign.calls (a0 : Int) (r : ByteArray) (w : World) (h : depotref22_Sign.f a0 = some r) :
  Calls Tryd.prog 52 #[.int .i64 a0] w fun e w' => e = .returned (.string r) ∧ Drawn0 w w' := by
 have H : (if a0 = 1 then (some (⟨#[60, 60]⟩ : ByteArray)) else (if a0 = 2 then (some (⟨#[60, 61]⟩ : ByteArray)) else (if a0 = 3 then (some (⟨#[61]⟩ : ByteArray)) else (if a0 = 4 then (some (⟨#[62, 61]⟩ : ByteArray)) else (if a0 = 5 then (some (⟨#[62, 62]⟩ : ByteArray)) else (some (⟨#[]⟩ : ByteArray))))))) = some r := h
 clear h
 by_cases c2 : a0 = 1
 ·rw [if_pos c2] at H
  have c2b0 : (a0 == 1) = true := beq_iff_eq.mpr c2
  have c2b1 : (a0 != 1) = false := bne_eq_false_iff_eq.mpr c2
  clear c2
  obtain rfl := Option.some.inj H
  go_enter Tryd.func52, Tryd.ntmps52
  go_wp2
  go_ret
  exact ⟨by first | rfl | (simp; done) | (simp [*]; done), by repeat (first | exact Drawn0.refl _ | apply Drawn0.step)⟩
 ·rw [if_neg c2] at H
  have c2b0 : (a0 == 1) = false := beq_eq_false_iff_ne.mpr c2
  have c2b1 : (a0 != 1) = true := bne_iff_ne.mpr c2
  by_cases c3 : a0 = 2
  ·rw [if_pos c3] at H
   have c3b0 : (a0 == 2) = true := beq_iff_eq.mpr c3
   have c3b1 : (a0 != 2) = false := bne_eq_false_iff_eq.mpr c3
   clear c3
   obtain rfl := Option.some.inj H
   go_enter Tryd.func52, Tryd.ntmps52
   go_wp2
   go_ret
   exact ⟨by first | rfl | (simp; done) | (simp [*]; done), by repeat (first | exact Drawn0.refl _ | apply Drawn0.step)⟩
  ·rw [if_neg c3] at H
   have c3b0 : (a0 == 2) = false := beq_eq_false_iff_ne.mpr c3
   have c3b1 : (a0 != 2) = true := bne_iff_ne.mpr c3
   by_cases c4 : a0 = 3
   ·rw [if_pos c4] at H
    have c4b0 : (a0 == 3) = true := beq_iff_eq.mpr c4
    have c4b1 : (a0 != 3) = false := bne_eq_false_iff_eq.mpr c4
    clear c4
    obtain rfl := Option.some.inj H
    go_enter Tryd.func52, Tryd.ntmps52
    go_wp2
    go_ret
    exact ⟨by first | rfl | (simp; done) | (simp [*]; done), by repeat (first | exact Drawn0.refl _ | apply Drawn0.step)⟩
   ·rw [if_neg c4] at H
    have c4b0 : (a0 == 3) = false := beq_eq_false_iff_ne.mpr c4
    have c4b1 : (a0 != 3) = true := bne_iff_ne.mpr c4
    by_cases c5 : a0 = 4
    ·rw [if_pos c5] at H
     have c5b0 : (a0 == 4) = true := beq_iff_eq.mpr c5
     have c5b1 : (a0 != 4) = false := bne_eq_false_iff_eq.mpr c5
     clear c5
     obtain rfl := Option.some.inj H
     go_enter Tryd.func52, Tryd.ntmps52
     go_wp2
     go_ret
     exact ⟨by first | rfl | (simp; done) | (simp [*]; done), by repeat (first | exact Drawn0.refl _ | apply Drawn0.step)⟩
    ·rw [if_neg c5] at H
     have c5b0 : (a0 == 4) = false := beq_eq_false_iff_ne.mpr c5
     have c5b1 : (a0 != 4) = true := bne_iff_ne.mpr c5
     by_cases c6 : a0 = 5
     ·rw [if_pos c6] at H
      have c6b0 : (a0 == 5) = true := beq_iff_eq.mpr c6
      have c6b1 : (a0 != 5) = false := bne_eq_false_iff_eq.mpr c6
      clear c6
      obtain rfl := Option.some.inj H
      go_enter Tryd.func52, Tryd.ntmps52
      go_wp2
      go_ret
      exact ⟨by first | rfl | (simp; done) | (simp [*]; done), by repeat (first | exact Drawn0.refl _ | apply Drawn0.step)⟩
     ·rw [if_neg c6] at H
      have c6b0 : (a0 == 5) = false := beq_eq_false_iff_ne.mpr c6
      have c6b1 : (a0 != 5) = true := bne_iff_ne.mpr c6
      obtain rfl := Option.some.inj H
      go_enter Tryd.func52, Tryd.ntmps52
      go_wp2
      go_ret
      exact ⟨by first | rfl | (simp; done) | (simp [*]; done), by repeat (first | exact Drawn0.refl _ | apply Drawn0.step)⟩
def depotref20_first.l0 : Nat → ByteArray → Int → Int → Option (Int)
 | 0, _, _, _ => none
 | k + 1, x0, x1, x5 => if x5 < (x0.size : Int) then (if 0 ≤ x5 then (if (bt x0 x5) = x1 then (some x5) else (depotref20_first.l0 k x0 x1 (wrap64 (x5 + 1)))) else (none)) else (some (-1))
def depotref20_first.f (k : Nat) (a0 : ByteArray) (a1 : Int) : Option (Int) := depotref20_first.l0 k a0 a1 0
theorem depotref20_first.mono_l : ∀ k, (∀ y0 y1 y2, LeO (depotref20_first.l0 k y0 y1 y2) (depotref20_first.l0 (k + 1) y0 y1 y2))
 | 0 => fun _ _ _ r h => by simp [depotref20_first.l0] at h
 | k + 1 => by
  have ih0 := depotref20_first.mono_l k
  ·intro y0 y1 y2
   unfold depotref20_first.l0
   repeat' first
   | (with_reducible exact ih0 _ _ _)
   | (with_reducible exact LeO.refl _)
   | (with_reducible exact LeO.none _)
   | (with_reducible refine LeO.ite ?_ ?_)
   | (with_reducible refine LeO.bind ?_ (fun _ => ?_))
   | exact ih0 _ _ _
   | exact LeO.none _
   | refine LeO.ite ?_ ?_
   | refine LeO.bind ?_ (fun _ => ?_)
theorem depotref20_first.mono : ∀ a0 a1 k, LeO (depotref20_first.f k a0 a1) (depotref20_first.f (k + 1) a0 a1) := by
 intro a0 a1 k
 have ih0 := depotref20_first.mono_l k
 unfold depotref20_first.f
 repeat' first
   | (with_reducible exact ih0 _ _ _)
   | (with_reducible exact LeO.refl _)
   | (with_reducible exact LeO.none _)
   | (with_reducible refine LeO.ite ?_ ?_)
   | (with_reducible refine LeO.bind ?_ (fun _ => ?_))
   | exact ih0 _ _ _
   | exact LeO.none _
   | refine LeO.ite ?_ ?_
   | refine LeO.bind ?_ (fun _ => ?_)
set_option maxHeartbeats 8000000 in
set_option maxRecDepth 100000 in
theorem depotref20_first.calls (k : Nat) (a0 : ByteArray) (a1 : Int) (r : Int) (w : World) (h : depotref20_first.f k a0 a1 = some r) :
  Calls Tryd.prog 95 #[.string a0, .int .u8 a1] w fun e w' => e = .returned (.int .i64 r) ∧ Drawn0 w w' := by
 have H : (depotref20_first.l0 k a0 a1 0) = some r := h
 clear h
 have H' := Aside0.mk H
 clear H
 go_enter Tryd.func95, Tryd.ntmps95
 go_wp2
 go_loopg [5] k (fun kq v5 w' => ∃ (x5_1 : Int), v5 = .int .i64 x5_1 ∧ Aside0 (depotref20_first.l0 kq a0 a1 x5_1 = some r) ∧ Aside0 (kq ≤ k) ∧ Drawn0 w w')
 case atStart => exact ⟨(0), (by first | rfl | (simp; done) | (simp [*]; done)), H', ⟨Nat.le_refl _⟩, by repeat (first | exact Drawn0.refl _ | apply Drawn0.step)⟩
 case round =>
  clear H'
  try clear p2
  obtain ⟨x5_1, rfl, HA, HK1, ⟨m1, rfl⟩⟩ := hrel
  cases gk with
  | zero => exact absurd HA.out (by simp [depotref20_first.l0])
  | succ k1 =>
   have H := HA.out
   clear HA
   simp only [depotref20_first.l0] at H
   by_cases c3 : x5_1 < (a0.size : Int)
   ·rw [if_pos c3] at H
    have c3b0 : decide (x5_1 < (a0.size : Int)) = true := decide_eq_true c3
    clear c3
    by_cases c4 : 0 ≤ x5_1
    ·rw [if_pos c4] at H
     have c4b0 : decide (0 ≤ x5_1) = true := decide_eq_true c4
     clear c4
     by_cases c6 : (bt a0 x5_1) = a1
     ·rw [if_pos c6] at H
      have c6b0 : ((bt a0 x5_1) == a1) = true := beq_iff_eq.mpr c6
      have c6b1 : ((bt a0 x5_1) != a1) = false := bne_eq_false_iff_eq.mpr c6
      clear c6
      obtain rfl := Option.some.inj H
      have p5 : 0 ≤ (x5_1 : Int) := of_decide_eq_true (by first | (with_reducible assumption) | assumption)
      have q5 : x5_1 < (a0.size : Int) := of_decide_eq_true (by first | (with_reducible assumption) | assumption)
      have hx5 := bt_at a0 x5_1
      replace p5 := eq_true p5
      replace q5 := eq_true q5
      go_wp2
      go_ret
      exact ⟨by first | rfl | (simp; done) | (simp [*]; done), by repeat (first | exact Drawn0.refl _ | apply Drawn0.step)⟩
     ·rw [if_neg c6] at H
      have c6b0 : ((bt a0 x5_1) == a1) = false := beq_eq_false_iff_ne.mpr c6
      have c6b1 : ((bt a0 x5_1) != a1) = true := bne_iff_ne.mpr c6
      have H' := Aside0.mk H
      clear H
      have p5 : 0 ≤ (x5_1 : Int) := of_decide_eq_true (by first | (with_reducible assumption) | assumption)
      have q5 : x5_1 < (a0.size : Int) := of_decide_eq_true (by first | (with_reducible assumption) | assumption)
      have hx5 := bt_at a0 x5_1
      replace p5 := eq_true p5
      replace q5 := eq_true q5
      go_wp2
      go_roundg k1
      case measure => have := HK1.out; omega
      case rel => exact ⟨(wrap64 (x5_1 + 1)), (by first | rfl | (simp; done) | (simp [*]; done)), H', ⟨by have := HK1.out; omega⟩, by repeat (first | exact Drawn0.refl _ | apply Drawn0.step)⟩
    ·rw [if_neg c4] at H
     exact absurd H (by simp)
   ·rw [if_neg c3] at H
    have c3b0 : decide (x5_1 < (a0.size : Int)) = false := decide_eq_false c3
    clear c3
    obtain rfl := Option.some.inj H
    go_wp2
    go_ret
    exact ⟨by first | rfl | (simp; done) | (simp [*]; done), by repeat (first | exact Drawn0.refl _ | apply Drawn0.step)⟩
def depotref20_last.l0 : Nat → ByteArray → Int → Int → Option (Int)
 | 0, _, _, _ => none
 | k + 1, x0, x1, x5 => if x5 ≥ 0 then (if 0 ≤ x5 then (if x5 < (x0.size : Int) then (if (bt x0 x5) = x1 then (some x5) else (depotref20_last.l0 k x0 x1 (wrap64 (x5 - 1)))) else (none)) else (none)) else (some (-1))
def depotref20_last.f (k : Nat) (a0 : ByteArray) (a1 : Int) : Option (Int) := depotref20_last.l0 k a0 a1 (wrap64 ((a0.size : Int) - 1))
theorem depotref20_last.mono_l : ∀ k, (∀ y0 y1 y2, LeO (depotref20_last.l0 k y0 y1 y2) (depotref20_last.l0 (k + 1) y0 y1 y2))
 | 0 => fun _ _ _ r h => by simp [depotref20_last.l0] at h
 | k + 1 => by
  have ih0 := depotref20_last.mono_l k
  ·intro y0 y1 y2
   unfold depotref20_last.l0
   repeat' first
   | (with_reducible exact ih0 _ _ _)
   | (with_reducible exact LeO.refl _)
   | (with_reducible exact LeO.none _)
   | (with_reducible refine LeO.ite ?_ ?_)
   | (with_reducible refine LeO.bind ?_ (fun _ => ?_))
   | exact ih0 _ _ _
   | exact LeO.none _
   | refine LeO.ite ?_ ?_
   | refine LeO.bind ?_ (fun _ => ?_)
theorem depotref20_last.mono : ∀ a0 a1 k, LeO (depotref20_last.f k a0 a1) (depotref20_last.f (k + 1) a0 a1) := by
 intro a0 a1 k
 have ih0 := depotref20_last.mono_l k
 unfold depotref20_last.f
 repeat' first
   | (with_reducible exact ih0 _ _ _)
   | (with_reducible exact LeO.refl _)
   | (with_reducible exact LeO.none _)
   | (with_reducible refine LeO.ite ?_ ?_)
   | (with_reducible refine LeO.bind ?_ (fun _ => ?_))
   | exact ih0 _ _ _
   | exact LeO.none _
   | refine LeO.ite ?_ ?_
   | refine LeO.bind ?_ (fun _ => ?_)
set_option maxHeartbeats 8000000 in
set_option maxRecDepth 100000 in
theorem depotref20_last.calls (k : Nat) (a0 : ByteArray) (a1 : Int) (r : Int) (w : World) (h : depotref20_last.f k a0 a1 = some r) :
  Calls Tryd.prog 96 #[.string a0, .int .u8 a1] w fun e w' => e = .returned (.int .i64 r) ∧ Drawn0 w w' := by
 have H : (depotref20_last.l0 k a0 a1 (wrap64 ((a0.size : Int) - 1))) = some r := h
 clear h
 have H' := Aside0.mk H
 clear H
 go_enter Tryd.func96, Tryd.ntmps96
 go_wp2
 go_loopg [5] k (fun kq v5 w' => ∃ (x5_1 : Int), v5 = .int .i64 x5_1 ∧ Aside0 (depotref20_last.l0 kq a0 a1 x5_1 = some r) ∧ Aside0 (kq ≤ k) ∧ Drawn0 w w')
 case atStart => exact ⟨(wrap64 ((a0.size : Int) - 1)), (by first | rfl | (simp; done) | (simp [*]; done)), H', ⟨Nat.le_refl _⟩, by repeat (first | exact Drawn0.refl _ | apply Drawn0.step)⟩
 case round =>
  clear H'
  try clear p2
  obtain ⟨x5_1, rfl, HA, HK1, ⟨m1, rfl⟩⟩ := hrel
  cases gk with
  | zero => exact absurd HA.out (by simp [depotref20_last.l0])
  | succ k1 =>
   have H := HA.out
   clear HA
   simp only [depotref20_last.l0] at H
   by_cases c3 : x5_1 ≥ 0
   ·rw [if_pos c3] at H
    have c3b0 : decide (0 ≤ x5_1) = true := decide_eq_true c3
    clear c3
    by_cases c4 : 0 ≤ x5_1
    ·rw [if_pos c4] at H
     have c4b0 : decide (0 ≤ x5_1) = true := decide_eq_true c4
     clear c4
     by_cases c5 : x5_1 < (a0.size : Int)
     ·rw [if_pos c5] at H
      have c5b0 : decide (x5_1 < (a0.size : Int)) = true := decide_eq_true c5
      clear c5
      by_cases c7 : (bt a0 x5_1) = a1
      ·rw [if_pos c7] at H
       have c7b0 : ((bt a0 x5_1) == a1) = true := beq_iff_eq.mpr c7
       have c7b1 : ((bt a0 x5_1) != a1) = false := bne_eq_false_iff_eq.mpr c7
       clear c7
       obtain rfl := Option.some.inj H
       have p6 : 0 ≤ (x5_1 : Int) := of_decide_eq_true (by first | (with_reducible assumption) | assumption)
       have q6 : x5_1 < (a0.size : Int) := of_decide_eq_true (by first | (with_reducible assumption) | assumption)
       have hx6 := bt_at a0 x5_1
       replace p6 := eq_true p6
       replace q6 := eq_true q6
       go_wp2
       go_ret
       exact ⟨by first | rfl | (simp; done) | (simp [*]; done), by repeat (first | exact Drawn0.refl _ | apply Drawn0.step)⟩
      ·rw [if_neg c7] at H
       have c7b0 : ((bt a0 x5_1) == a1) = false := beq_eq_false_iff_ne.mpr c7
       have c7b1 : ((bt a0 x5_1) != a1) = true := bne_iff_ne.mpr c7
       have H' := Aside0.mk H
       clear H
       have p6 : 0 ≤ (x5_1 : Int) := of_decide_eq_true (by first | (with_reducible assumption) | assumption)
       have q6 : x5_1 < (a0.size : Int) := of_decide_eq_true (by first | (with_reducible assumption) | assumption)
       have hx6 := bt_at a0 x5_1
       replace p6 := eq_true p6
       replace q6 := eq_true q6
       go_wp2
       go_roundg k1
       case measure => have := HK1.out; omega
       case rel => exact ⟨(wrap64 (x5_1 - 1)), (by first | rfl | (simp; done) | (simp [*]; done)), H', ⟨by have := HK1.out; omega⟩, by repeat (first | exact Drawn0.refl _ | apply Drawn0.step)⟩
     ·rw [if_neg c5] at H
      exact absurd H (by simp)
    ·rw [if_neg c4] at H
     exact absurd H (by simp)
   ·rw [if_neg c3] at H
    have c3b0 : decide (0 ≤ x5_1) = false := decide_eq_false c3
    clear c3
    obtain rfl := Option.some.inj H
    go_wp2
    go_ret
    exact ⟨by first | rfl | (simp; done) | (simp [*]; done), by repeat (first | exact Drawn0.refl _ | apply Drawn0.step)⟩
theorem two_newR (w : World) (o1 o2 : Obj) (n : Nat) : (((w.alloc o1).alloc o2).drewN n).heap[w.heap.size]? = some o1 ∧ (((w.alloc o1).alloc o2).drewN n).heap[w.heap.size + 1]? = some o2 ∧ Below w.heap.size w (((w.alloc o1).alloc o2).drewN n) := by
  refine ⟨blk_drewN (blk_alloc (blk_new w o1) o2) n, blk_drewN ?_ n, pw_below_drewN (below_alloc (below_alloc (Below.refl _ w) o1) o2) n⟩
  have := blk_new (w.alloc o1) o2
  rwa [World.size_alloc] at this
set_option maxHeartbeats 4000000 in
set_option maxRecDepth 1000000 in
theorem depotref20_parted.walk (k : Nat) (s : ByteArray) (i m : Int) (w : World) (hi : depotref20_first.f k s 58 = some i) (hm : depotref20_last.f k (restR s i) 45 = some m)
    (hi1 : i + 1 ≤ s.size) (hm1 : m + 1 ≤ (restR s i).size) (hsz : (s.size : Int) ≤ 140737488351232) (hsz2 : ((restR s i).size : Int) ≤ 140737488351232) :
    Calls Tryd.prog 73 #[.string s] w fun e w' => e = .returned (.agg #[.string (epochR s i), .string (upR (restR s i) m), .string (revR (restR s i) m), .bool (decide (0 ≤ i)), .bool (decide (0 ≤ m))]) ∧ Below w.heap.size w w' := by
  have Hi := Lib.hid hi; clear hi
  have Hm := Lib.hid hm; clear hm
  have hu31 := Tryd.underlying112
  go_enter Tryd.func73, Tryd.ntmps73
  go_upto_if 10 with (go_at_call 95; refine (depotref20_first.calls _ _ _ _ _ Hi.out).mono ?_; rintro e w' ⟨rfl, ⟨nd, rfl⟩⟩)
  obtain ⟨rest, Hrest⟩ : ∃ x, Hid (restR s i = x) := ⟨_, rfl⟩
  have Hm2 := Lib.hid (Hrest.out ▸ Hm.out)
  clear Hm
  have hm3 : m + 1 ≤ (rest.size : Int) := by rw [← Hrest.out]; exact hm1
  have hsz3 : (rest.size : Int) ≤ 140737488351232 := by rw [← Hrest.out]; exact hsz2
  clear hm1 hsz2
  have Hfin : Hid (∀ W : World, Ending.returned (Value.agg #[.string (epochR s i), .string (upR (restR s i) m), .string (revR (restR s i) m), .bool (decide (0 ≤ i)), .bool (decide (0 ≤ m))]) = Ending.returned (Value.agg #[.string (epochR s i), .string (upR rest m), .string (revR rest m), .bool (decide (0 ≤ i)), .bool (decide (0 ≤ m))]) ∧ W = W) := fun W => ⟨by rw [Hrest.out], rfl⟩
  go_cut [] (fun wx => Hid (wx.heap[w.heap.size]? = some (.cells #[.string emptyR, .string emptyR, .string emptyR, .bool false, .bool false] 112 (0, 0))) ∧ Hid (wx.heap[w.heap.size + 1]? = some (.cells #[.string (epochR s i), .string rest, .string emptyR, .bool (decide (0 ≤ i)), .bool false] 112 (0, 0))) ∧ Hid (Below w.heap.size w wx))
  case first =>
    obtain ⟨q1, q2, q3⟩ := two_newR w (.cells #[.string emptyR, .string emptyR, .string emptyR, .bool false, .bool false] 112 (0, 0)) (.cells #[.string emptyR, .string s, .string emptyR, .bool false, .bool false] 112 (0, 0)) nd
    have Q1 := Lib.hid q1; have Q2 := Lib.hid q2; have Q3 := Lib.hid q3
    clear q1 q2 q3
    by_cases h0 : 0 ≤ i
    · have hd : decide (0 ≤ i) = true := decide_eq_true h0
      have Hr := Lib.hid (Hrest.out.symm.trans (if_pos h0))
      have He : Hid (epochR s i = s.extract 0 i.toNat) := if_pos h0
      go_wp2_with fail
      go_meet
      refine ⟨blk_far (blk_far (blk_far Q1.out (by simp) _) (by simp) _) (by simp) _, ?_, below_set (below_set (below_set Q3.out (by simp)) (by simp)) (by simp)⟩
      rw [Hr.out, He.out, hd]
      exact blk_put (blk_put (blk_put Q2.out 0 _ rfl) 1 _ rfl) 3 _ rfl
    · have hd : decide (0 ≤ i) = false := decide_eq_false h0
      have Hr := Lib.hid (Hrest.out.symm.trans (if_neg h0))
      have He : Hid (epochR s i = emptyR) := if_neg h0
      go_wp2_with fail
      go_meet
      refine ⟨Q1.out, ?_, Q3.out⟩
      rw [Hr.out, He.out, hd]
      exact Q2.out
  case rest =>
    obtain ⟨hR, hP, hB⟩ := hcut
    obtain ⟨ep, Hep⟩ : ∃ x, Hid (epochR s i = x) := ⟨_, rfl⟩
    obtain ⟨bi, Hbi⟩ : ∃ x, Hid (decide (0 ≤ i) = x) := ⟨_, rfl⟩
    have hP1 := Lib.hid (Hbi.out ▸ Hep.out ▸ hP.out)
    clear hP
    have hc1 := blk_cell hP1.out 1
    simp only [List.getElem?_toArray, List.getElem?_cons_succ, List.getElem?_cons_zero] at hc1
    go_upto_if 25 with (go_at_call 96; refine (depotref20_last.calls _ _ _ _ _ Hm2.out).mono ?_; rintro e w' ⟨rfl, ⟨nd2, rfl⟩⟩)
    go_cut [] (fun wx => Hid (wx.heap[w.heap.size]? = some (.cells #[.string emptyR, .string emptyR, .string emptyR, .bool false, .bool false] 112 (0, 0))) ∧ Hid (wx.heap[w.heap.size + 1]? = some (.cells #[.string ep, .string (upR rest m), .string (revR rest m), .bool bi, .bool (decide (0 ≤ m))] 112 (0, 0))) ∧ Hid (Below w.heap.size w wx))
    case first =>
      by_cases h0 : 0 ≤ m
      · have hd : decide (0 ≤ m) = true := decide_eq_true h0
        have Hu : Hid (upR rest m = rest.extract 0 m.toNat) := if_pos h0
        have Hv : Hid (revR rest m = rest.extract (m + 1).toNat rest.size) := if_pos h0
        have hc2 := blk_cell hP1.out 2
        have hc4 := blk_cell hP1.out 4
        have hz1 := blk_frozen hP1.out 1
        have hz2 := blk_frozen hP1.out 2
        have hz4 := blk_frozen hP1.out 4
        simp only [List.getElem?_toArray, List.getElem?_cons_succ, List.getElem?_cons_zero] at hc2 hc4
        go_wp2_with fail
        go_meet
        refine ⟨blk_far (blk_far (blk_far (blk_drewN hR.out _) (by simp) _) (by simp) _) (by simp) _, ?_, below_set (below_set (below_set (pw_below_drewN hB.out _) (by simp)) (by simp)) (by simp)⟩
        rw [Hu.out, Hv.out, hd]
        exact blk_put (blk_put (blk_put (blk_drewN hP1.out _) 2 _ rfl) 1 _ rfl) 4 _ rfl
      · have hd : decide (0 ≤ m) = false := decide_eq_false h0
        have Hu : Hid (upR rest m = rest) := if_neg h0
        have Hv : Hid (revR rest m = emptyR) := if_neg h0
        go_wp2_with fail
        go_meet
        refine ⟨blk_drewN hR.out _, ?_, pw_below_drewN hB.out _⟩
        rw [Hu.out, Hv.out, hd]
        exact blk_drewN hP1.out _
    case rest =>
      obtain ⟨hR, hP2, hB⟩ := hcut
      clear hc1 hP1
      obtain ⟨u, Hu⟩ : ∃ x, Hid (upR rest m = x) := ⟨_, rfl⟩
      obtain ⟨v, Hv⟩ : ∃ x, Hid (revR rest m = x) := ⟨_, rfl⟩
      obtain ⟨bm, Hbm⟩ : ∃ x, Hid (decide (0 ≤ m) = x) := ⟨_, rfl⟩
      have hP := Lib.hid (Hbm.out ▸ Hu.out ▸ Hv.out ▸ hP2.out)
      clear hP2
      have hc0 := blk_cell hP.out 0
      have hc1 := blk_cell hP.out 1
      have hc2 := blk_cell hP.out 2
      have hc3 := blk_cell hP.out 3
      have hc4 := blk_cell hP.out 4
      have hr0 := blk_cell hR.out 0
      have hr1 := blk_cell hR.out 1
      have hr2 := blk_cell hR.out 2
      have hr3 := blk_cell hR.out 3
      have hr4 := blk_cell hR.out 4
      have hz0 := blk_frozen hR.out 0
      have hz1 := blk_frozen hR.out 1
      have hz2 := blk_frozen hR.out 2
      have hz3 := blk_frozen hR.out 3
      have hz4 := blk_frozen hR.out 4
      simp only [List.getElem?_toArray, List.getElem?_cons_succ, List.getElem?_cons_zero] at hc0 hc1 hc2 hc3 hc4 hr0 hr1 hr2 hr3 hr4
      go_wp2_with fail
      refine bodyPost_ret (results_cell_row rfl _ _ w.heap.size 112 #[.string ep, .string u, .string v, .bool bi, .bool bm] (0, 0) _ rfl (blk_put (blk_put (blk_put (blk_put (blk_put hR.out 0 _ rfl) 1 _ rfl) 2 _ rfl) 3 _ rfl) 4 _ rfl) Tryd.underlying112 rfl rfl) rfl ⟨?_, below_set (below_set (below_set (below_set (below_set hB.out (Nat.le_refl _)) (Nat.le_refl _)) (Nat.le_refl _)) (Nat.le_refl _)) (Nat.le_refl _)⟩
      rw [Hrest.out, Hu.out, Hv.out, Hep.out, Hbi.out, Hbm.out]
def depotref20_parted.f (k : Nat) (a0 : ByteArray) : Option (ByteArray × ByteArray × ByteArray × Bool × Bool) :=
  (depotref20_first.f k a0 58).bind fun i => (depotref20_last.f k (restR a0 i) 45).bind fun m =>
    if i + 1 ≤ a0.size ∧ m + 1 ≤ (restR a0 i).size ∧ (a0.size : Int) ≤ 140737488351232 ∧ ((restR a0 i).size : Int) ≤ 140737488351232 then some (epochR a0 i, upR (restR a0 i) m, revR (restR a0 i) m, decide (0 ≤ i), decide (0 ≤ m)) else none
theorem depotref20_parted.mono : ∀ a0 k, LeO (depotref20_parted.f k a0) (depotref20_parted.f (k + 1) a0) := by
  intro a0 k r h
  unfold depotref20_parted.f at h ⊢
  obtain ⟨c, hc, h⟩ := Option.bind_eq_some_iff.mp h
  obtain ⟨m, hm, h⟩ := Option.bind_eq_some_iff.mp h
  rw [depotref20_first.mono _ _ k c hc, Option.bind_some, depotref20_last.mono _ _ k m hm]
  exact h
theorem depotref20_parted.calls (k : Nat) (a0 : ByteArray) (r1 : ByteArray) (r2 : ByteArray) (r3 : ByteArray) (r4 : Bool) (r5 : Bool) (w : World) (h : depotref20_parted.f k a0 = some (r1, r2, r3, r4, r5)) :
    Calls Tryd.prog 73 #[.string a0] w fun e w' => e = .returned (.agg #[.string r1, .string r2, .string r3, .bool r4, .bool r5]) ∧ Below w.heap.size w w' := by
  unfold depotref20_parted.f at h
  obtain ⟨i, hi, h⟩ := Option.bind_eq_some_iff.mp h
  obtain ⟨m, hm, h⟩ := Option.bind_eq_some_iff.mp h
  split at h
  case isFalse => cases h
  case isTrue hz =>
    have h := Option.some.inj h
    simp only [Prod.mk.injEq] at h
    obtain ⟨rfl, rfl, rfl, rfl, rfl⟩ := h
    exact depotref20_parted.walk k a0 i m w hi hm hz.1 hz.2.1 hz.2.2.1 hz.2.2.2
def depotref20_digit.f (a0 : Int) : Option (Bool) := if a0 ≥ 48 then (some (decide (a0 ≤ 57))) else (some false)
set_option maxHeartbeats 8000000 in
set_option maxRecDepth 100000 in
theorem depotref20_digit.calls (a0 : Int) (r : Bool) (w : World) (h : depotref20_digit.f a0 = some r) :
  Calls Tryd.prog 74 #[.int .u8 a0] w fun e w' => e = .returned (.bool r) ∧ Drawn0 w w' := by
 have H : (if a0 ≥ 48 then (some (decide (a0 ≤ 57))) else (some false)) = some r := h
 clear h
 by_cases c2 : a0 ≥ 48
 ·rw [if_pos c2] at H
  have c2b0 : decide (48 ≤ a0) = true := decide_eq_true c2
  clear c2
  obtain rfl := Option.some.inj H
  go_enter Tryd.func74, Tryd.ntmps74
  go_wp2
  go_ret
  exact ⟨by first | rfl | (simp; done) | (simp [*]; done), by repeat (first | exact Drawn0.refl _ | apply Drawn0.step)⟩
 ·rw [if_neg c2] at H
  have c2b0 : decide (48 ≤ a0) = false := decide_eq_false c2
  clear c2
  obtain rfl := Option.some.inj H
  go_enter Tryd.func74, Tryd.ntmps74
  go_wp2
  go_ret
  exact ⟨by first | rfl | (simp; done) | (simp [*]; done), by repeat (first | exact Drawn0.refl _ | apply Drawn0.step)⟩
def depotref20_letter.f (a0 : Int) : Option (Bool) := if a0 ≥ 97 then (if a0 ≤ 122 then (some true) else (if a0 ≥ 65 then (some (decide (a0 ≤ 90))) else (some false))) else (if a0 ≥ 65 then (some (decide (a0 ≤ 90))) else (some false))
set_option maxHeartbeats 8000000 in
set_option maxRecDepth 100000 in
theorem depotref20_letter.calls (a0 : Int) (r : Bool) (w : World) (h : depotref20_letter.f a0 = some r) :
  Calls Tryd.prog 75 #[.int .u8 a0] w fun e w' => e = .returned (.bool r) ∧ Drawn0 w w' := by
 have H : (if a0 ≥ 97 then (if a0 ≤ 122 then (some true) else (if a0 ≥ 65 then (some (decide (a0 ≤ 90))) else (some false))) else (if a0 ≥ 65 then (some (decide (a0 ≤ 90))) else (some false))) = some r := h
 clear h
 by_cases c2 : a0 ≥ 97
 ·rw [if_pos c2] at H
  have c2b0 : decide (97 ≤ a0) = true := decide_eq_true c2
  clear c2
  by_cases c3 : a0 ≤ 122
  ·rw [if_pos c3] at H
   have c3b0 : decide (a0 ≤ 122) = true := decide_eq_true c3
   clear c3
   obtain rfl := Option.some.inj H
   go_enter Tryd.func75, Tryd.ntmps75
   go_wp2
   go_ret
   exact ⟨by first | rfl | (simp; done) | (simp [*]; done), by repeat (first | exact Drawn0.refl _ | apply Drawn0.step)⟩
  ·rw [if_neg c3] at H
   have c3b0 : decide (a0 ≤ 122) = false := decide_eq_false c3
   clear c3
   by_cases c4 : a0 ≥ 65
   ·rw [if_pos c4] at H
    have c4b0 : decide (65 ≤ a0) = true := decide_eq_true c4
    clear c4
    obtain rfl := Option.some.inj H
    go_enter Tryd.func75, Tryd.ntmps75
    go_wp2
    go_ret
    exact ⟨by first | rfl | (simp; done) | (simp [*]; done), by repeat (first | exact Drawn0.refl _ | apply Drawn0.step)⟩
   ·rw [if_neg c4] at H
    have c4b0 : decide (65 ≤ a0) = false := decide_eq_false c4
    clear c4
    obtain rfl := Option.some.inj H
    go_enter Tryd.func75, Tryd.ntmps75
    go_wp2
    go_ret
    exact ⟨by first | rfl | (simp; done) | (simp [*]; done), by repeat (first | exact Drawn0.refl _ | apply Drawn0.step)⟩
 ·rw [if_neg c2] at H
  have c2b0 : decide (97 ≤ a0) = false := decide_eq_false c2
  clear c2
  by_cases c5 : a0 ≥ 65
  ·rw [if_pos c5] at H
   have c5b0 : decide (65 ≤ a0) = true := decide_eq_true c5
   clear c5
   obtain rfl := Option.some.inj H
   go_enter Tryd.func75, Tryd.ntmps75
   go_wp2
   go_ret
   exact ⟨by first | rfl | (simp; done) | (simp [*]; done), by repeat (first | exact Drawn0.refl _ | apply Drawn0.step)⟩
  ·rw [if_neg c5] at H
   have c5b0 : decide (65 ≤ a0) = false := decide_eq_false c5
   clear c5
   obtain rfl := Option.some.inj H
   go_enter Tryd.func75, Tryd.ntmps75
   go_wp2
   go_ret
   exact ⟨by first | rfl | (simp; done) | (simp [*]; done), by repeat (first | exact Drawn0.refl _ | apply Drawn0.step)⟩
end Go.Proofs.YtmocooihkobdjaaDoor.E
end
section
namespace Go.Proofs.YtmocooihkobdjaaDoor.E
open Go.RowKit Go.Proofs.YtmocooihkobdjaaDoorW.PrintWords Go.Proofs.YtmocooihkobdjaaDoorW.PrintLast Go.Proofs.YtmocooihkobdjaaDoorW.PrintMore
attribute [local go_sem] max2_int min2_int max_two min_two max_three min_three max_four min_four
set_option linter.unusedVariables false
set_option linter.unusedSimpArgs false
mutual
def depotref20_Legal.j0 : Nat → Bool → ByteArray → ByteArray → ByteArray → Bool → Bool → Option (Bool)
 | 0, _, _, _, _, _, _ => none
 | k + 1, x38, x158000, x158001, x158002, x158003, x158004 => if x38 = true then (some false) else (depotref20_Legal.l0 k 0 x158000 x158001 x158002 x158003 x158004)
def depotref20_Legal.l0 : Nat → Int → ByteArray → ByteArray → ByteArray → Bool → Bool → Option (Bool)
 | 0, _, _, _, _, _, _ => none
 | k + 1, x4, x158000, x158001, x158002, x158003, x158004 => if x4 < (x158000.size : Int) then (if 0 ≤ x4 then ((depotref20_digit.f (bt x158000 x4)).bind fun t162 => (if t162 = true then (depotref20_Legal.l0 k (wrap64 (x4 + 1)) x158000 x158001 x158002 x158003 x158004) else (some false))) else (none)) else (depotref20_Legal.l1 k 0 x158000 x158001 x158002 x158003 x158004)
def depotref20_Legal.l1 : Nat → Int → ByteArray → ByteArray → ByteArray → Bool → Bool → Option (Bool)
 | 0, _, _, _, _, _, _ => none
 | k + 1, x5, x158000, x158001, x158002, x158003, x158004 => if x5 < (x158001.size : Int) then (if 0 ≤ x5 then ((depotref20_letter.f (bt x158001 x5)).bind fun t163 => (if t163 = true then (depotref20_Legal.l1 k (wrap64 (x5 + 1)) x158000 x158001 x158002 x158003 x158004) else ((depotref20_digit.f (bt x158001 x5)).bind fun t164 => (if t164 = true then (depotref20_Legal.l1 k (wrap64 (x5 + 1)) x158000 x158001 x158002 x158003 x158004) else (if (bt x158001 x5) = 46 then (depotref20_Legal.l1 k (wrap64 (x5 + 1)) x158000 x158001 x158002 x158003 x158004) else (if (bt x158001 x5) = 43 then (depotref20_Legal.l1 k (wrap64 (x5 + 1)) x158000 x158001 x158002 x158003 x158004) else (if (bt x158001 x5) = 45 then (depotref20_Legal.l1 k (wrap64 (x5 + 1)) x158000 x158001 x158002 x158003 x158004) else (if (bt x158001 x5) = 126 then (depotref20_Legal.l1 k (wrap64 (x5 + 1)) x158000 x158001 x158002 x158003 x158004) else (if (bt x158001 x5) = 58 then (if x158003 = true then (depotref20_Legal.l1 k (wrap64 (x5 + 1)) x158000 x158001 x158002 x158003 x158004) else (some false)) else (some false)))))))))) else (none)) else (depotref20_Legal.l2 k 0 x158000 x158001 x158002 x158003 x158004)
def depotref20_Legal.l2 : Nat → Int → ByteArray → ByteArray → ByteArray → Bool → Bool → Option (Bool)
 | 0, _, _, _, _, _, _ => none
 | k + 1, x7, x158000, x158001, x158002, x158003, x158004 => if x7 < (x158002.size : Int) then (if 0 ≤ x7 then ((depotref20_letter.f (bt x158002 x7)).bind fun t165 => (if t165 = true then (depotref20_Legal.l2 k (wrap64 (x7 + 1)) x158000 x158001 x158002 x158003 x158004) else ((depotref20_digit.f (bt x158002 x7)).bind fun t166 => (if t166 = true then (depotref20_Legal.l2 k (wrap64 (x7 + 1)) x158000 x158001 x158002 x158003 x158004) else (if (bt x158002 x7) = 46 then (depotref20_Legal.l2 k (wrap64 (x7 + 1)) x158000 x158001 x158002 x158003 x158004) else (if (bt x158002 x7) = 43 then (depotref20_Legal.l2 k (wrap64 (x7 + 1)) x158000 x158001 x158002 x158003 x158004) else (if (bt x158002 x7) = 126 then (depotref20_Legal.l2 k (wrap64 (x7 + 1)) x158000 x158001 x158002 x158003 x158004) else (some false)))))))) else (none)) else (some true)
end
def depotref20_Legal.f (k : Nat) (a0 : ByteArray) : Option (Bool) := (depotref20_parted.f k a0).bind fun bt152 => (if bt152.2.2.2.1 = true then (if bt152.1.toList = ([] : List UInt8) then (depotref20_Legal.j0 k true bt152.1 bt152.2.1 bt152.2.2.1 bt152.2.2.2.1 bt152.2.2.2.2) else (if bt152.2.2.2.2 = true then (if bt152.2.2.1.toList = ([] : List UInt8) then (depotref20_Legal.j0 k true bt152.1 bt152.2.1 bt152.2.2.1 bt152.2.2.2.1 bt152.2.2.2.2) else (if bt152.2.1.toList = ([] : List UInt8) then (depotref20_Legal.j0 k true bt152.1 bt152.2.1 bt152.2.2.1 bt152.2.2.2.1 bt152.2.2.2.2) else (if 0 < (bt152.2.1.size : Int) then ((depotref20_digit.f (bt bt152.2.1 0)).bind fun t158 => (depotref20_Legal.j0 k (!t158) bt152.1 bt152.2.1 bt152.2.2.1 bt152.2.2.2.1 bt152.2.2.2.2)) else (none)))) else (if bt152.2.1.toList = ([] : List UInt8) then (depotref20_Legal.j0 k true bt152.1 bt152.2.1 bt152.2.2.1 bt152.2.2.2.1 bt152.2.2.2.2) else (if 0 < (bt152.2.1.size : Int) then ((depotref20_digit.f (bt bt152.2.1 0)).bind fun t159 => (depotref20_Legal.j0 k (!t159) bt152.1 bt152.2.1 bt152.2.2.1 bt152.2.2.2.1 bt152.2.2.2.2)) else (none))))) else (if bt152.2.2.2.2 = true then (if bt152.2.2.1.toList = ([] : List UInt8) then (depotref20_Legal.j0 k true bt152.1 bt152.2.1 bt152.2.2.1 bt152.2.2.2.1 bt152.2.2.2.2) else (if bt152.2.1.toList = ([] : List UInt8) then (depotref20_Legal.j0 k true bt152.1 bt152.2.1 bt152.2.2.1 bt152.2.2.2.1 bt152.2.2.2.2) else (if 0 < (bt152.2.1.size : Int) then ((depotref20_digit.f (bt bt152.2.1 0)).bind fun t160 => (depotref20_Legal.j0 k (!t160) bt152.1 bt152.2.1 bt152.2.2.1 bt152.2.2.2.1 bt152.2.2.2.2)) else (none)))) else (if bt152.2.1.toList = ([] : List UInt8) then (depotref20_Legal.j0 k true bt152.1 bt152.2.1 bt152.2.2.1 bt152.2.2.2.1 bt152.2.2.2.2) else (if 0 < (bt152.2.1.size : Int) then ((depotref20_digit.f (bt bt152.2.1 0)).bind fun t161 => (depotref20_Legal.j0 k (!t161) bt152.1 bt152.2.1 bt152.2.2.1 bt152.2.2.2.1 bt152.2.2.2.2)) else (none)))))
theorem depotref20_Legal.mono_l : ∀ k, (∀ y0 y1 y2 y3 y4 y5, LeO (depotref20_Legal.j0 k y0 y1 y2 y3 y4 y5) (depotref20_Legal.j0 (k + 1) y0 y1 y2 y3 y4 y5)) ∧ (∀ y0 y1 y2 y3 y4 y5, LeO (depotref20_Legal.l0 k y0 y1 y2 y3 y4 y5) (depotref20_Legal.l0 (k + 1) y0 y1 y2 y3 y4 y5)) ∧ (∀ y0 y1 y2 y3 y4 y5, LeO (depotref20_Legal.l1 k y0 y1 y2 y3 y4 y5) (depotref20_Legal.l1 (k + 1) y0 y1 y2 y3 y4 y5)) ∧ (∀ y0 y1 y2 y3 y4 y5, LeO (depotref20_Legal.l2 k y0 y1 y2 y3 y4 y5) (depotref20_Legal.l2 (k + 1) y0 y1 y2 y3 y4 y5))
 | 0 => ⟨fun _ _ _ _ _ _ r h => by simp [depotref20_Legal.j0] at h, fun _ _ _ _ _ _ r h => by simp [depotref20_Legal.l0] at h, fun _ _ _ _ _ _ r h => by simp [depotref20_Legal.l1] at h, fun _ _ _ _ _ _ r h => by simp [depotref20_Legal.l2] at h⟩
 | k + 1 => by
  obtain ⟨ih0, ih1, ih2, ih3⟩ := depotref20_Legal.mono_l k
  refine ⟨?_, ?_, ?_, ?_⟩
  ·intro y0 y1 y2 y3 y4 y5
   unfold depotref20_Legal.j0
   repeat' first
   | (with_reducible exact ih0 _ _ _ _ _ _)
   | (with_reducible exact ih1 _ _ _ _ _ _)
   | (with_reducible exact ih2 _ _ _ _ _ _)
   | (with_reducible exact ih3 _ _ _ _ _ _)
   | (with_reducible exact depotref20_parted.mono _ _)
   | (with_reducible exact LeO.refl _)
   | (with_reducible exact LeO.none _)
   | (with_reducible refine LeO.ite ?_ ?_)
   | (with_reducible refine LeO.bind ?_ (fun _ => ?_))
   | exact ih0 _ _ _ _ _ _
   | exact ih1 _ _ _ _ _ _
   | exact ih2 _ _ _ _ _ _
   | exact ih3 _ _ _ _ _ _
   | exact depotref20_parted.mono _ _
   | exact LeO.none _
   | refine LeO.ite ?_ ?_
   | refine LeO.bind ?_ (fun _ => ?_)
  ·intro y0 y1 y2 y3 y4 y5
   unfold depotref20_Legal.l0
   repeat' first
   | (with_reducible exact ih0 _ _ _ _ _ _)
   | (with_reducible exact ih1 _ _ _ _ _ _)
   | (with_reducible exact ih2 _ _ _ _ _ _)
   | (with_reducible exact ih3 _ _ _ _ _ _)
   | (with_reducible exact depotref20_parted.mono _ _)
   | (with_reducible exact LeO.refl _)
   | (with_reducible exact LeO.none _)
   | (with_reducible refine LeO.ite ?_ ?_)
   | (with_reducible refine LeO.bind ?_ (fun _ => ?_))
   | exact ih0 _ _ _ _ _ _
   | exact ih1 _ _ _ _ _ _
   | exact ih2 _ _ _ _ _ _
   | exact ih3 _ _ _ _ _ _
   | exact depotref20_parted.mono _ _
   | exact LeO.none _
   | refine LeO.ite ?_ ?_
   | refine LeO.bind ?_ (fun _ => ?_)
  ·intro y0 y1 y2 y3 y4 y5
   unfold depotref20_Legal.l1
   repeat' first
   | (with_reducible exact ih0 _ _ _ _ _ _)
   | (with_reducible exact ih1 _ _ _ _ _ _)
   | (with_reducible exact ih2 _ _ _ _ _ _)
   | (with_reducible exact ih3 _ _ _ _ _ _)
   | (with_reducible exact depotref20_parted.mono _ _)
   | (with_reducible exact LeO.refl _)
   | (with_reducible exact LeO.none _)
   | (with_reducible refine LeO.ite ?_ ?_)
   | (with_reducible refine LeO.bind ?_ (fun _ => ?_))
   | exact ih0 _ _ _ _ _ _
   | exact ih1 _ _ _ _ _ _
   | exact ih2 _ _ _ _ _ _
   | exact ih3 _ _ _ _ _ _
   | exact depotref20_parted.mono _ _
   | exact LeO.none _
   | refine LeO.ite ?_ ?_
   | refine LeO.bind ?_ (fun _ => ?_)
  ·intro y0 y1 y2 y3 y4 y5
   unfold depotref20_Legal.l2
   repeat' first
   | (with_reducible exact ih0 _ _ _ _ _ _)
   | (with_reducible exact ih1 _ _ _ _ _ _)
   | (with_reducible exact ih2 _ _ _ _ _ _)
   | (with_reducible exact ih3 _ _ _ _ _ _)
   | (with_reducible exact depotref20_parted.mono _ _)
   | (with_reducible exact LeO.refl _)
   | (with_reducible exact LeO.none _)
   | (with_reducible refine LeO.ite ?_ ?_)
   | (with_reducible refine LeO.bind ?_ (fun _ => ?_))
   | exact ih0 _ _ _ _ _ _
   | exact ih1 _ _ _ _ _ _
   | exact ih2 _ _ _ _ _ _
   | exact ih3 _ _ _ _ _ _
   | exact depotref20_parted.mono _ _
   | exact LeO.none _
   | refine LeO.ite ?_ ?_
   | refine LeO.bind ?_ (fun _ => ?_)
theorem depotref20_Legal.mono : ∀ a0 k, LeO (depotref20_Legal.f k a0) (depotref20_Legal.f (k + 1) a0) := by
 intro a0 k
 obtain ⟨ih0, ih1, ih2, ih3⟩ := depotref20_Legal.mono_l k
 unfold depotref20_Legal.f
 repeat' first
   | (with_reducible exact ih0 _ _ _ _ _ _)
   | (with_reducible exact ih1 _ _ _ _ _ _)
   | (with_reducible exact ih2 _ _ _ _ _ _)
   | (with_reducible exact ih3 _ _ _ _ _ _)
   | (with_reducible exact depotref20_parted.mono _ _)
   | (with_reducible exact LeO.refl _)
   | (with_reducible exact LeO.none _)
   | (with_reducible refine LeO.ite ?_ ?_)
   | (with_reducible refine LeO.bind ?_ (fun _ => ?_))
   | exact ih0 _ _ _ _ _ _
   | exact ih1 _ _ _ _ _ _
   | exact ih2 _ _ _ _ _ _
   | exact ih3 _ _ _ _ _ _
   | exact depotref20_parted.mono _ _
   | exact LeO.none _
   | refine LeO.ite ?_ ?_
   | refine LeO.bind ?_ (fun _ => ?_)
set_option maxHeartbeats 8000000 in
set_option maxRecDepth 100000 in
theorem depotref20_Legal.calls (k : Nat) (a0 : ByteArray) (r : Bool) (w : World) (h : depotref20_Legal.f k a0 = some r) :
  Calls Tryd.prog 53 #[.string a0] w fun e w' => e = .returned (.bool r) ∧ Below w.heap.size w w' := by
 have hu112 := Tryd.underlying112
 have HB := Aside0.mk (Below.refl w.heap.size w)
 have H : ((depotref20_parted.f k a0).bind fun bt152 => (if bt152.2.2.2.1 = true then (if bt152.1.toList = ([] : List UInt8) then (depotref20_Legal.j0 k true bt152.1 bt152.2.1 bt152.2.2.1 bt152.2.2.2.1 bt152.2.2.2.2) else (if bt152.2.2.2.2 = true then (if bt152.2.2.1.toList = ([] : List UInt8) then (depotref20_Legal.j0 k true bt152.1 bt152.2.1 bt152.2.2.1 bt152.2.2.2.1 bt152.2.2.2.2) else (if bt152.2.1.toList = ([] : List UInt8) then (depotref20_Legal.j0 k true bt152.1 bt152.2.1 bt152.2.2.1 bt152.2.2.2.1 bt152.2.2.2.2) else (if 0 < (bt152.2.1.size : Int) then ((depotref20_digit.f (bt bt152.2.1 0)).bind fun t158 => (depotref20_Legal.j0 k (!t158) bt152.1 bt152.2.1 bt152.2.2.1 bt152.2.2.2.1 bt152.2.2.2.2)) else (none)))) else (if bt152.2.1.toList = ([] : List UInt8) then (depotref20_Legal.j0 k true bt152.1 bt152.2.1 bt152.2.2.1 bt152.2.2.2.1 bt152.2.2.2.2) else (if 0 < (bt152.2.1.size : Int) then ((depotref20_digit.f (bt bt152.2.1 0)).bind fun t159 => (depotref20_Legal.j0 k (!t159) bt152.1 bt152.2.1 bt152.2.2.1 bt152.2.2.2.1 bt152.2.2.2.2)) else (none))))) else (if bt152.2.2.2.2 = true then (if bt152.2.2.1.toList = ([] : List UInt8) then (depotref20_Legal.j0 k true bt152.1 bt152.2.1 bt152.2.2.1 bt152.2.2.2.1 bt152.2.2.2.2) else (if bt152.2.1.toList = ([] : List UInt8) then (depotref20_Legal.j0 k true bt152.1 bt152.2.1 bt152.2.2.1 bt152.2.2.2.1 bt152.2.2.2.2) else (if 0 < (bt152.2.1.size : Int) then ((depotref20_digit.f (bt bt152.2.1 0)).bind fun t160 => (depotref20_Legal.j0 k (!t160) bt152.1 bt152.2.1 bt152.2.2.1 bt152.2.2.2.1 bt152.2.2.2.2)) else (none)))) else (if bt152.2.1.toList = ([] : List UInt8) then (depotref20_Legal.j0 k true bt152.1 bt152.2.1 bt152.2.2.1 bt152.2.2.2.1 bt152.2.2.2.2) else (if 0 < (bt152.2.1.size : Int) then ((depotref20_digit.f (bt bt152.2.1 0)).bind fun t161 => (depotref20_Legal.j0 k (!t161) bt152.1 bt152.2.1 bt152.2.2.1 bt152.2.2.2.1 bt152.2.2.2.2)) else (none)))))) = some r := h
 clear h
 replace H := Option.bind_eq_some_iff.mp H
 obtain ⟨⟨t152, t153, t154, t155, t156⟩, A20, H⟩ := H
 replace H : (if t155 = true then (if t152.toList = ([] : List UInt8) then (depotref20_Legal.j0 k true t152 t153 t154 t155 t156) else (if t156 = true then (if t154.toList = ([] : List UInt8) then (depotref20_Legal.j0 k true t152 t153 t154 t155 t156) else (if t153.toList = ([] : List UInt8) then (depotref20_Legal.j0 k true t152 t153 t154 t155 t156) else (if 0 < (t153.size : Int) then ((depotref20_digit.f (bt t153 0)).bind fun t158 => (depotref20_Legal.j0 k (!t158) t152 t153 t154 t155 t156)) else (none)))) else (if t153.toList = ([] : List UInt8) then (depotref20_Legal.j0 k true t152 t153 t154 t155 t156) else (if 0 < (t153.size : Int) then ((depotref20_digit.f (bt t153 0)).bind fun t159 => (depotref20_Legal.j0 k (!t159) t152 t153 t154 t155 t156)) else (none))))) else (if t156 = true then (if t154.toList = ([] : List UInt8) then (depotref20_Legal.j0 k true t152 t153 t154 t155 t156) else (if t153.toList = ([] : List UInt8) then (depotref20_Legal.j0 k true t152 t153 t154 t155 t156) else (if 0 < (t153.size : Int) then ((depotref20_digit.f (bt t153 0)).bind fun t160 => (depotref20_Legal.j0 k (!t160) t152 t153 t154 t155 t156)) else (none)))) else (if t153.toList = ([] : List UInt8) then (depotref20_Legal.j0 k true t152 t153 t154 t155 t156) else (if 0 < (t153.size : Int) then ((depotref20_digit.f (bt t153 0)).bind fun t161 => (depotref20_Legal.j0 k (!t161) t152 t153 t154 t155 t156)) else (none))))) = some r := H
 have A2 := Aside0.mk A20
 clear A20
 have HC3 := Aside0.mk H
 clear H
 go_enter Tryd.func53, Tryd.ntmps53
 go_upto_region 2 with (first | ((with_reducible refine gate_callee (f := 73) rfl ?_); refine goesL_ (some 10) rfl rfl Tryd.func73 (by kernel_rfl) rfl #[.string a0] rfl (by (try simp only [List.map_toArray, List.map_cons, List.map_nil]); first | done | rfl | (simp only [List.length_drop, List.length_take]; rfl) | (simp; done)) ?_; (with_reducible refine (depotref20_parted.calls k a0 t152 t153 t154 t155 t156 _ A2.out).mono ?_); rintro e w4 ⟨rfl, hb⟩; refine ⟨_, rfl, ?_⟩; have n0_ := Aside0.mk (below_step (W0 HB.out) hb); clear HB; have HB := n0_; clear n0_; (try clear hb); (try clear hb2); (try clear hk); (try clear hi)) | ((with_reducible refine gate_dst (N := 3) rfl ?_); refine box_event ?hg (N := 3) ?hd (cs := #[.string (⟨#[]⟩ : ByteArray), .string (⟨#[]⟩ : ByteArray), .string (⟨#[]⟩ : ByteArray), .bool false, .bool false]) (t := 112) ?hr ?_; (case hd => rfl); (case hg => rfl); (case hr => first | (go_simp; done) | (go_simp; rfl)); intro gb157 hg w5 hbox hb; have n0_ := Aside0.mk (below_step (W0 HB.out) hb); have n1_ := Aside0.mk (hbox); have n2_ := Aside0.mk ((by rw [hg]; exact (below_size (W0 HB.out)) : w.heap.size ≤ gb157)); have n3_ := Aside0.mk ((by rw [hg]; exact (below_size (W0 HB.out)) : w.heap.size ≤ gb157)); clear HB; have HB := n0_; have BK157 := n1_; have GW157 := n2_; have GE157 := n3_; clear n0_ n1_ n2_ n3_; clear hb hbox hg; have hcz6_0 : w5.cell? ⟨gb157, 0, none⟩ = some (.string (⟨#[]⟩ : ByteArray)) := (blk_cell BK157.out 0).trans rfl; have hcz6_1 : w5.cell? ⟨gb157, 1, none⟩ = some (.string (⟨#[]⟩ : ByteArray)) := (blk_cell BK157.out 1).trans rfl; have hcz6_2 : w5.cell? ⟨gb157, 2, none⟩ = some (.string (⟨#[]⟩ : ByteArray)) := (blk_cell BK157.out 2).trans rfl; have hcz6_3 : w5.cell? ⟨gb157, 3, none⟩ = some (.bool false) := (blk_cell BK157.out 3).trans rfl; have hcz6_4 : w5.cell? ⟨gb157, 4, none⟩ = some (.bool false) := (blk_cell BK157.out 4).trans rfl; have hfz6_0 := blk_frozen BK157.out 0; have hfz6_1 := blk_frozen BK157.out 1; have hfz6_2 := blk_frozen BK157.out 2; have hfz6_3 := blk_frozen BK157.out 3; have hfz6_4 := blk_frozen BK157.out 4))
 (try simp only [Act.put, List.setIfInBounds_toArray, List.set_cons_zero, List.set_cons_succ])
 go_cut [38] (fun v38 wc => ∃ (kq : Nat) (x38_2 : Bool), v38 = .bool x38_2 ∧ Aside0 (depotref20_Legal.j0 kq x38_2 t152 t153 t154 t155 t156 = some r) ∧ Aside0 (kq ≤ k) ∧ Aside0 (wc.heap[gb157]? = some (.cells #[.string t152, .string t153, .string t154, .bool t155, .bool t156] 112 (0, 0))) ∧ Aside0 (Below w.heap.size w wc))
 case first =>
  have H := HC3.out
  clear HC3
  by_cases c7 : t155 = true
  ·subst c7
   have H1 : (if t152.toList = ([] : List UInt8) then (depotref20_Legal.j0 k true t152 t153 t154 true t156) else (if t156 = true then (if t154.toList = ([] : List UInt8) then (depotref20_Legal.j0 k true t152 t153 t154 true t156) else (if t153.toList = ([] : List UInt8) then (depotref20_Legal.j0 k true t152 t153 t154 true t156) else (if 0 < (t153.size : Int) then ((depotref20_digit.f (bt t153 0)).bind fun t158 => (depotref20_Legal.j0 k (!t158) t152 t153 t154 true t156)) else (none)))) else (if t153.toList = ([] : List UInt8) then (depotref20_Legal.j0 k true t152 t153 t154 true t156) else (if 0 < (t153.size : Int) then ((depotref20_digit.f (bt t153 0)).bind fun t159 => (depotref20_Legal.j0 k (!t159) t152 t153 t154 true t156)) else (none))))) = some r := by rw [if_pos rfl] at H; exact H
   clear H
   have H := H1
   clear H1
   by_cases c8 : t152.toList = ([] : List UInt8)
   ·rw [if_pos c8] at H
    have c8b0 : (t152.toList == ([] : List UInt8)) = true := beq_iff_eq.mpr c8
    have c8b1 : (t152.toList != ([] : List UInt8)) = false := bne_eq_false_iff_eq.mpr c8
    clear c8
    (first | rw [c8b0] | (simp only [i64_w, i32_w]; rw [c8b0]) | rw [show t152.toList.isEmpty = true by simpa using c8b0] | skip)
    have H' := Aside0.mk H
    clear H
    have hcz9_0 : w5.cell? ⟨gb157, 0, none⟩ = some (.string (⟨#[]⟩ : ByteArray)) := (blk_cell BK157.out 0).trans rfl
    have hcz9_1 : w5.cell? ⟨gb157, 1, none⟩ = some (.string (⟨#[]⟩ : ByteArray)) := (blk_cell BK157.out 1).trans rfl
    have hcz9_2 : w5.cell? ⟨gb157, 2, none⟩ = some (.string (⟨#[]⟩ : ByteArray)) := (blk_cell BK157.out 2).trans rfl
    have hcz9_3 : w5.cell? ⟨gb157, 3, none⟩ = some (.bool false) := (blk_cell BK157.out 3).trans rfl
    have hcz9_4 : w5.cell? ⟨gb157, 4, none⟩ = some (.bool false) := (blk_cell BK157.out 4).trans rfl
    have hfz9_0 := blk_frozen BK157.out 0
    have hfz9_1 := blk_frozen BK157.out 1
    have hfz9_2 := blk_frozen BK157.out 2
    have hfz9_3 := blk_frozen BK157.out 3
    have hfz9_4 := blk_frozen BK157.out 4
    go_wp2
    go_meet
    case rel => exact ⟨_, (true), (by first | rfl | (simp; done) | (simp [*]; done)), H', ⟨by first | omega | exact Nat.le_refl _⟩, ⟨by (with_reducible repeat (first | refine blk_drewN ?_ _ | refine blk_drew ?_ | refine blk_alloc ?_ _)); refine blk_put (cs := #[.string t152, .string t153, .string t154, .bool true, .bool false]) ?_ 4 _ rfl; (with_reducible repeat (first | refine blk_drewN ?_ _ | refine blk_drew ?_ | refine blk_alloc ?_ _)); refine blk_put (cs := #[.string t152, .string t153, .string t154, .bool false, .bool false]) ?_ 3 _ rfl; (with_reducible repeat (first | refine blk_drewN ?_ _ | refine blk_drew ?_ | refine blk_alloc ?_ _)); refine blk_put (cs := #[.string t152, .string t153, .string (⟨#[]⟩ : ByteArray), .bool false, .bool false]) ?_ 2 _ rfl; (with_reducible repeat (first | refine blk_drewN ?_ _ | refine blk_drew ?_ | refine blk_alloc ?_ _)); refine blk_put (cs := #[.string t152, .string (⟨#[]⟩ : ByteArray), .string (⟨#[]⟩ : ByteArray), .bool false, .bool false]) ?_ 1 _ rfl; (with_reducible repeat (first | refine blk_drewN ?_ _ | refine blk_drew ?_ | refine blk_alloc ?_ _)); refine blk_put (cs := #[.string (⟨#[]⟩ : ByteArray), .string (⟨#[]⟩ : ByteArray), .string (⟨#[]⟩ : ByteArray), .bool false, .bool false]) ?_ 0 _ rfl; (with_reducible repeat (first | refine blk_drewN ?_ _ | refine blk_drew ?_ | refine blk_alloc ?_ _)); exact BK157.out⟩, ⟨by repeat (first | (with_reducible first | exact HB.out | apply below_alloc | apply pw_below_drewN | apply below_drew1 | refine below_set ?_ GE157.out) | exact HB.out)⟩⟩
   ·rw [if_neg c8] at H
    have c8b0 : (t152.toList == ([] : List UInt8)) = false := beq_eq_false_iff_ne.mpr c8
    have c8b1 : (t152.toList != ([] : List UInt8)) = true := bne_iff_ne.mpr c8
    (first | rw [c8b0] | (simp only [i64_w, i32_w]; rw [c8b0]) | rw [show t152.toList.isEmpty = false by simpa using c8b0] | skip)
    by_cases c10 : t156 = true
    ·subst c10
     have H1 : (if t154.toList = ([] : List UInt8) then (depotref20_Legal.j0 k true t152 t153 t154 true true) else (if t153.toList = ([] : List UInt8) then (depotref20_Legal.j0 k true t152 t153 t154 true true) else (if 0 < (t153.size : Int) then ((depotref20_digit.f (bt t153 0)).bind fun t158 => (depotref20_Legal.j0 k (!t158) t152 t153 t154 true true)) else (none)))) = some r := by rw [if_pos rfl] at H; exact H
     clear H
     have H := H1
     clear H1
     by_cases c11 : t154.toList = ([] : List UInt8)
     ·rw [if_pos c11] at H
      have c11b0 : (t154.toList == ([] : List UInt8)) = true := beq_iff_eq.mpr c11
      have c11b1 : (t154.toList != ([] : List UInt8)) = false := bne_eq_false_iff_eq.mpr c11
      clear c11
      have H' := Aside0.mk H
      clear H
      have hcz12_0 : w5.cell? ⟨gb157, 0, none⟩ = some (.string (⟨#[]⟩ : ByteArray)) := (blk_cell BK157.out 0).trans rfl
      have hcz12_1 : w5.cell? ⟨gb157, 1, none⟩ = some (.string (⟨#[]⟩ : ByteArray)) := (blk_cell BK157.out 1).trans rfl
      have hcz12_2 : w5.cell? ⟨gb157, 2, none⟩ = some (.string (⟨#[]⟩ : ByteArray)) := (blk_cell BK157.out 2).trans rfl
      have hcz12_3 : w5.cell? ⟨gb157, 3, none⟩ = some (.bool false) := (blk_cell BK157.out 3).trans rfl
      have hcz12_4 : w5.cell? ⟨gb157, 4, none⟩ = some (.bool false) := (blk_cell BK157.out 4).trans rfl
      have hfz12_0 := blk_frozen BK157.out 0
      have hfz12_1 := blk_frozen BK157.out 1
      have hfz12_2 := blk_frozen BK157.out 2
      have hfz12_3 := blk_frozen BK157.out 3
      have hfz12_4 := blk_frozen BK157.out 4
      go_wp2
      go_meet
      case rel => exact ⟨_, (true), (by first | rfl | (simp; done) | (simp [*]; done)), H', ⟨by first | omega | exact Nat.le_refl _⟩, ⟨by (with_reducible repeat (first | refine blk_drewN ?_ _ | refine blk_drew ?_ | refine blk_alloc ?_ _)); refine blk_put (cs := #[.string t152, .string t153, .string t154, .bool true, .bool false]) ?_ 4 _ rfl; (with_reducible repeat (first | refine blk_drewN ?_ _ | refine blk_drew ?_ | refine blk_alloc ?_ _)); refine blk_put (cs := #[.string t152, .string t153, .string t154, .bool false, .bool false]) ?_ 3 _ rfl; (with_reducible repeat (first | refine blk_drewN ?_ _ | refine blk_drew ?_ | refine blk_alloc ?_ _)); refine blk_put (cs := #[.string t152, .string t153, .string (⟨#[]⟩ : ByteArray), .bool false, .bool false]) ?_ 2 _ rfl; (with_reducible repeat (first | refine blk_drewN ?_ _ | refine blk_drew ?_ | refine blk_alloc ?_ _)); refine blk_put (cs := #[.string t152, .string (⟨#[]⟩ : ByteArray), .string (⟨#[]⟩ : ByteArray), .bool false, .bool false]) ?_ 1 _ rfl; (with_reducible repeat (first | refine blk_drewN ?_ _ | refine blk_drew ?_ | refine blk_alloc ?_ _)); refine blk_put (cs := #[.string (⟨#[]⟩ : ByteArray), .string (⟨#[]⟩ : ByteArray), .string (⟨#[]⟩ : ByteArray), .bool false, .bool false]) ?_ 0 _ rfl; (with_reducible repeat (first | refine blk_drewN ?_ _ | refine blk_drew ?_ | refine blk_alloc ?_ _)); exact BK157.out⟩, ⟨by repeat (first | (with_reducible first | exact HB.out | apply below_alloc | apply pw_below_drewN | apply below_drew1 | refine below_set ?_ GE157.out) | exact HB.out)⟩⟩
     ·rw [if_neg c11] at H
      have c11b0 : (t154.toList == ([] : List UInt8)) = false := beq_eq_false_iff_ne.mpr c11
      have c11b1 : (t154.toList != ([] : List UInt8)) = true := bne_iff_ne.mpr c11
      by_cases c13 : t153.toList = ([] : List UInt8)
      ·rw [if_pos c13] at H
       have c13b0 : (t153.toList == ([] : List UInt8)) = true := beq_iff_eq.mpr c13
       have c13b1 : (t153.toList != ([] : List UInt8)) = false := bne_eq_false_iff_eq.mpr c13
       clear c13
       have H' := Aside0.mk H
       clear H
       have hcz14_0 : w5.cell? ⟨gb157, 0, none⟩ = some (.string (⟨#[]⟩ : ByteArray)) := (blk_cell BK157.out 0).trans rfl
       have hcz14_1 : w5.cell? ⟨gb157, 1, none⟩ = some (.string (⟨#[]⟩ : ByteArray)) := (blk_cell BK157.out 1).trans rfl
       have hcz14_2 : w5.cell? ⟨gb157, 2, none⟩ = some (.string (⟨#[]⟩ : ByteArray)) := (blk_cell BK157.out 2).trans rfl
       have hcz14_3 : w5.cell? ⟨gb157, 3, none⟩ = some (.bool false) := (blk_cell BK157.out 3).trans rfl
       have hcz14_4 : w5.cell? ⟨gb157, 4, none⟩ = some (.bool false) := (blk_cell BK157.out 4).trans rfl
       have hfz14_0 := blk_frozen BK157.out 0
       have hfz14_1 := blk_frozen BK157.out 1
       have hfz14_2 := blk_frozen BK157.out 2
       have hfz14_3 := blk_frozen BK157.out 3
       have hfz14_4 := blk_frozen BK157.out 4
       go_wp2
       go_meet
       case rel => exact ⟨_, (true), (by first | rfl | (simp; done) | (simp [*]; done)), H', ⟨by first | omega | exact Nat.le_refl _⟩, ⟨by (with_reducible repeat (first | refine blk_drewN ?_ _ | refine blk_drew ?_ | refine blk_alloc ?_ _)); refine blk_put (cs := #[.string t152, .string t153, .string t154, .bool true, .bool false]) ?_ 4 _ rfl; (with_reducible repeat (first | refine blk_drewN ?_ _ | refine blk_drew ?_ | refine blk_alloc ?_ _)); refine blk_put (cs := #[.string t152, .string t153, .string t154, .bool false, .bool false]) ?_ 3 _ rfl; (with_reducible repeat (first | refine blk_drewN ?_ _ | refine blk_drew ?_ | refine blk_alloc ?_ _)); refine blk_put (cs := #[.string t152, .string t153, .string (⟨#[]⟩ : ByteArray), .bool false, .bool false]) ?_ 2 _ rfl; (with_reducible repeat (first | refine blk_drewN ?_ _ | refine blk_drew ?_ | refine blk_alloc ?_ _)); refine blk_put (cs := #[.string t152, .string (⟨#[]⟩ : ByteArray), .string (⟨#[]⟩ : ByteArray), .bool false, .bool false]) ?_ 1 _ rfl; (with_reducible repeat (first | refine blk_drewN ?_ _ | refine blk_drew ?_ | refine blk_alloc ?_ _)); refine blk_put (cs := #[.string (⟨#[]⟩ : ByteArray), .string (⟨#[]⟩ : ByteArray), .string (⟨#[]⟩ : ByteArray), .bool false, .bool false]) ?_ 0 _ rfl; (with_reducible repeat (first | refine blk_drewN ?_ _ | refine blk_drew ?_ | refine blk_alloc ?_ _)); exact BK157.out⟩, ⟨by repeat (first | (with_reducible first | exact HB.out | apply below_alloc | apply pw_below_drewN | apply below_drew1 | refine below_set ?_ GE157.out) | exact HB.out)⟩⟩
      ·rw [if_neg c13] at H
       have c13b0 : (t153.toList == ([] : List UInt8)) = false := beq_eq_false_iff_ne.mpr c13
       have c13b1 : (t153.toList != ([] : List UInt8)) = true := bne_iff_ne.mpr c13
       by_cases c15 : 0 < (t153.size : Int)
       ·rw [if_pos c15] at H
        have c15b0 : decide (0 < (t153.size : Int)) = true := decide_eq_true c15
        have c15b1 : decide (0 < t153.size) = true := decide_eq_true (by omega)
        clear c15
        replace H := Option.bind_eq_some_iff.mp H
        obtain ⟨t158, A170, H⟩ := H
        replace H : (depotref20_Legal.j0 k (!t158) t152 t153 t154 true true) = some r := H
        have A17 := Aside0.mk A170
        clear A170
        have H' := Aside0.mk H
        clear H
        have hcz18_0 : w5.cell? ⟨gb157, 0, none⟩ = some (.string (⟨#[]⟩ : ByteArray)) := (blk_cell BK157.out 0).trans rfl
        have hcz18_1 : w5.cell? ⟨gb157, 1, none⟩ = some (.string (⟨#[]⟩ : ByteArray)) := (blk_cell BK157.out 1).trans rfl
        have hcz18_2 : w5.cell? ⟨gb157, 2, none⟩ = some (.string (⟨#[]⟩ : ByteArray)) := (blk_cell BK157.out 2).trans rfl
        have hcz18_3 : w5.cell? ⟨gb157, 3, none⟩ = some (.bool false) := (blk_cell BK157.out 3).trans rfl
        have hcz18_4 : w5.cell? ⟨gb157, 4, none⟩ = some (.bool false) := (blk_cell BK157.out 4).trans rfl
        have hfz18_0 := blk_frozen BK157.out 0
        have hfz18_1 := blk_frozen BK157.out 1
        have hfz18_2 := blk_frozen BK157.out 2
        have hfz18_3 := blk_frozen BK157.out 3
        have hfz18_4 := blk_frozen BK157.out 4
        have p16 : 0 ≤ (0 : Int) := (by omega)
        have q16 : 0 < t153.size := (by have : (0 : Int) < (t153.size : Int) := of_decide_eq_true (by first | (with_reducible assumption) | assumption); omega)
        have hx16 : ∀ h : 0 < t153.size, ((t153[0]'h).toNat : Int) = bt t153 0 := bt_at t153 0
        clear p16
        have qi16 : (0 < (t153.size : Int)) = True := eq_true (of_decide_eq_true (by first | (with_reducible assumption) | assumption))
        replace q16 := eq_true q16
        go_wp2_with (first | (go_at_call 74; (with_reducible refine (depotref20_digit.calls (bt t153 0) t158 _ A17.out).mono ?_); rintro e w' ⟨rfl, ⟨nd, rfl⟩⟩))
        go_meet
        case rel => exact ⟨_, (!t158), (by first | rfl | (simp; done) | (simp [*]; done)), H', ⟨by first | omega | exact Nat.le_refl _⟩, ⟨by (with_reducible repeat (first | refine blk_drewN ?_ _ | refine blk_drew ?_ | refine blk_alloc ?_ _)); refine blk_put (cs := #[.string t152, .string t153, .string t154, .bool true, .bool false]) ?_ 4 _ rfl; (with_reducible repeat (first | refine blk_drewN ?_ _ | refine blk_drew ?_ | refine blk_alloc ?_ _)); refine blk_put (cs := #[.string t152, .string t153, .string t154, .bool false, .bool false]) ?_ 3 _ rfl; (with_reducible repeat (first | refine blk_drewN ?_ _ | refine blk_drew ?_ | refine blk_alloc ?_ _)); refine blk_put (cs := #[.string t152, .string t153, .string (⟨#[]⟩ : ByteArray), .bool false, .bool false]) ?_ 2 _ rfl; (with_reducible repeat (first | refine blk_drewN ?_ _ | refine blk_drew ?_ | refine blk_alloc ?_ _)); refine blk_put (cs := #[.string t152, .string (⟨#[]⟩ : ByteArray), .string (⟨#[]⟩ : ByteArray), .bool false, .bool false]) ?_ 1 _ rfl; (with_reducible repeat (first | refine blk_drewN ?_ _ | refine blk_drew ?_ | refine blk_alloc ?_ _)); refine blk_put (cs := #[.string (⟨#[]⟩ : ByteArray), .string (⟨#[]⟩ : ByteArray), .string (⟨#[]⟩ : ByteArray), .bool false, .bool false]) ?_ 0 _ rfl; (with_reducible repeat (first | refine blk_drewN ?_ _ | refine blk_drew ?_ | refine blk_alloc ?_ _)); exact BK157.out⟩, ⟨by repeat (first | (with_reducible first | exact HB.out | apply below_alloc | apply pw_below_drewN | apply below_drew1 | refine below_set ?_ GE157.out) | exact HB.out)⟩⟩
       ·rw [if_neg c15] at H
        exact absurd H (by simp)
    ·replace c10 := Bool.eq_false_iff.mpr c10
     subst c10
     have H1 : (if t153.toList = ([] : List UInt8) then (depotref20_Legal.j0 k true t152 t153 t154 true false) else (if 0 < (t153.size : Int) then ((depotref20_digit.f (bt t153 0)).bind fun t159 => (depotref20_Legal.j0 k (!t159) t152 t153 t154 true false)) else (none))) = some r := by rw [if_neg (show ¬ (false = true) by decide)] at H; exact H
     clear H
     have H := H1
     clear H1
     by_cases c19 : t153.toList = ([] : List UInt8)
     ·rw [if_pos c19] at H
      have c19b0 : (t153.toList == ([] : List UInt8)) = true := beq_iff_eq.mpr c19
      have c19b1 : (t153.toList != ([] : List UInt8)) = false := bne_eq_false_iff_eq.mpr c19
      clear c19
      have H' := Aside0.mk H
      clear H
      have hcz20_0 : w5.cell? ⟨gb157, 0, none⟩ = some (.string (⟨#[]⟩ : ByteArray)) := (blk_cell BK157.out 0).trans rfl
      have hcz20_1 : w5.cell? ⟨gb157, 1, none⟩ = some (.string (⟨#[]⟩ : ByteArray)) := (blk_cell BK157.out 1).trans rfl
      have hcz20_2 : w5.cell? ⟨gb157, 2, none⟩ = some (.string (⟨#[]⟩ : ByteArray)) := (blk_cell BK157.out 2).trans rfl
      have hcz20_3 : w5.cell? ⟨gb157, 3, none⟩ = some (.bool false) := (blk_cell BK157.out 3).trans rfl
      have hcz20_4 : w5.cell? ⟨gb157, 4, none⟩ = some (.bool false) := (blk_cell BK157.out 4).trans rfl
      have hfz20_0 := blk_frozen BK157.out 0
      have hfz20_1 := blk_frozen BK157.out 1
      have hfz20_2 := blk_frozen BK157.out 2
      have hfz20_3 := blk_frozen BK157.out 3
      have hfz20_4 := blk_frozen BK157.out 4
      go_wp2
      go_meet
      case rel => exact ⟨_, (true), (by first | rfl | (simp; done) | (simp [*]; done)), H', ⟨by first | omega | exact Nat.le_refl _⟩, ⟨by (with_reducible repeat (first | refine blk_drewN ?_ _ | refine blk_drew ?_ | refine blk_alloc ?_ _)); refine blk_put (cs := #[.string t152, .string t153, .string t154, .bool true, .bool false]) ?_ 4 _ rfl; (with_reducible repeat (first | refine blk_drewN ?_ _ | refine blk_drew ?_ | refine blk_alloc ?_ _)); refine blk_put (cs := #[.string t152, .string t153, .string t154, .bool false, .bool false]) ?_ 3 _ rfl; (with_reducible repeat (first | refine blk_drewN ?_ _ | refine blk_drew ?_ | refine blk_alloc ?_ _)); refine blk_put (cs := #[.string t152, .string t153, .string (⟨#[]⟩ : ByteArray), .bool false, .bool false]) ?_ 2 _ rfl; (with_reducible repeat (first | refine blk_drewN ?_ _ | refine blk_drew ?_ | refine blk_alloc ?_ _)); refine blk_put (cs := #[.string t152, .string (⟨#[]⟩ : ByteArray), .string (⟨#[]⟩ : ByteArray), .bool false, .bool false]) ?_ 1 _ rfl; (with_reducible repeat (first | refine blk_drewN ?_ _ | refine blk_drew ?_ | refine blk_alloc ?_ _)); refine blk_put (cs := #[.string (⟨#[]⟩ : ByteArray), .string (⟨#[]⟩ : ByteArray), .string (⟨#[]⟩ : ByteArray), .bool false, .bool false]) ?_ 0 _ rfl; (with_reducible repeat (first | refine blk_drewN ?_ _ | refine blk_drew ?_ | refine blk_alloc ?_ _)); exact BK157.out⟩, ⟨by repeat (first | (with_reducible first | exact HB.out | apply below_alloc | apply pw_below_drewN | apply below_drew1 | refine below_set ?_ GE157.out) | exact HB.out)⟩⟩
     ·rw [if_neg c19] at H
      have c19b0 : (t153.toList == ([] : List UInt8)) = false := beq_eq_false_iff_ne.mpr c19
      have c19b1 : (t153.toList != ([] : List UInt8)) = true := bne_iff_ne.mpr c19
      by_cases c21 : 0 < (t153.size : Int)
      ·rw [if_pos c21] at H
       have c21b0 : decide (0 < (t153.size : Int)) = true := decide_eq_true c21
       have c21b1 : decide (0 < t153.size) = true := decide_eq_true (by omega)
       clear c21
       replace H := Option.bind_eq_some_iff.mp H
       obtain ⟨t159, A230, H⟩ := H
       replace H : (depotref20_Legal.j0 k (!t159) t152 t153 t154 true false) = some r := H
       have A23 := Aside0.mk A230
       clear A230
       have H' := Aside0.mk H
       clear H
       have hcz24_0 : w5.cell? ⟨gb157, 0, none⟩ = some (.string (⟨#[]⟩ : ByteArray)) := (blk_cell BK157.out 0).trans rfl
       have hcz24_1 : w5.cell? ⟨gb157, 1, none⟩ = some (.string (⟨#[]⟩ : ByteArray)) := (blk_cell BK157.out 1).trans rfl
       have hcz24_2 : w5.cell? ⟨gb157, 2, none⟩ = some (.string (⟨#[]⟩ : ByteArray)) := (blk_cell BK157.out 2).trans rfl
       have hcz24_3 : w5.cell? ⟨gb157, 3, none⟩ = some (.bool false) := (blk_cell BK157.out 3).trans rfl
       have hcz24_4 : w5.cell? ⟨gb157, 4, none⟩ = some (.bool false) := (blk_cell BK157.out 4).trans rfl
       have hfz24_0 := blk_frozen BK157.out 0
       have hfz24_1 := blk_frozen BK157.out 1
       have hfz24_2 := blk_frozen BK157.out 2
       have hfz24_3 := blk_frozen BK157.out 3
       have hfz24_4 := blk_frozen BK157.out 4
       have p22 : 0 ≤ (0 : Int) := (by omega)
       have q22 : 0 < t153.size := (by have : (0 : Int) < (t153.size : Int) := of_decide_eq_true (by first | (with_reducible assumption) | assumption); omega)
       have hx22 : ∀ h : 0 < t153.size, ((t153[0]'h).toNat : Int) = bt t153 0 := bt_at t153 0
       clear p22
       have qi22 : (0 < (t153.size : Int)) = True := eq_true (of_decide_eq_true (by first | (with_reducible assumption) | assumption))
       replace q22 := eq_true q22
       go_wp2_with (first | (go_at_call 74; (with_reducible refine (depotref20_digit.calls (bt t153 0) t159 _ A23.out).mono ?_); rintro e w' ⟨rfl, ⟨nd, rfl⟩⟩))
       go_meet
       case rel => exact ⟨_, (!t159), (by first | rfl | (simp; done) | (simp [*]; done)), H', ⟨by first | omega | exact Nat.le_refl _⟩, ⟨by (with_reducible repeat (first | refine blk_drewN ?_ _ | refine blk_drew ?_ | refine blk_alloc ?_ _)); refine blk_put (cs := #[.string t152, .string t153, .string t154, .bool true, .bool false]) ?_ 4 _ rfl; (with_reducible repeat (first | refine blk_drewN ?_ _ | refine blk_drew ?_ | refine blk_alloc ?_ _)); refine blk_put (cs := #[.string t152, .string t153, .string t154, .bool false, .bool false]) ?_ 3 _ rfl; (with_reducible repeat (first | refine blk_drewN ?_ _ | refine blk_drew ?_ | refine blk_alloc ?_ _)); refine blk_put (cs := #[.string t152, .string t153, .string (⟨#[]⟩ : ByteArray), .bool false, .bool false]) ?_ 2 _ rfl; (with_reducible repeat (first | refine blk_drewN ?_ _ | refine blk_drew ?_ | refine blk_alloc ?_ _)); refine blk_put (cs := #[.string t152, .string (⟨#[]⟩ : ByteArray), .string (⟨#[]⟩ : ByteArray), .bool false, .bool false]) ?_ 1 _ rfl; (with_reducible repeat (first | refine blk_drewN ?_ _ | refine blk_drew ?_ | refine blk_alloc ?_ _)); refine blk_put (cs := #[.string (⟨#[]⟩ : ByteArray), .string (⟨#[]⟩ : ByteArray), .string (⟨#[]⟩ : ByteArray), .bool false, .bool false]) ?_ 0 _ rfl; (with_reducible repeat (first | refine blk_drewN ?_ _ | refine blk_drew ?_ | refine blk_alloc ?_ _)); exact BK157.out⟩, ⟨by repeat (first | (with_reducible first | exact HB.out | apply below_alloc | apply pw_below_drewN | apply below_drew1 | refine below_set ?_ GE157.out) | exact HB.out)⟩⟩
      ·rw [if_neg c21] at H
       exact absurd H (by simp)
  ·replace c7 := Bool.eq_false_iff.mpr c7
   subst c7
   have H1 : (if t156 = true then (if t154.toList = ([] : List UInt8) then (depotref20_Legal.j0 k true t152 t153 t154 false t156) else (if t153.toList = ([] : List UInt8) then (depotref20_Legal.j0 k true t152 t153 t154 false t156) else (if 0 < (t153.size : Int) then ((depotref20_digit.f (bt t153 0)).bind fun t160 => (depotref20_Legal.j0 k (!t160) t152 t153 t154 false t156)) else (none)))) else (if t153.toList = ([] : List UInt8) then (depotref20_Legal.j0 k true t152 t153 t154 false t156) else (if 0 < (t153.size : Int) then ((depotref20_digit.f (bt t153 0)).bind fun t161 => (depotref20_Legal.j0 k (!t161) t152 t153 t154 false t156)) else (none)))) = some r := by rw [if_neg (show ¬ (false = true) by decide)] at H; exact H
   clear H
   have H := H1
   clear H1
   by_cases c25 : t156 = true
   ·subst c25
    have H1 : (if t154.toList = ([] : List UInt8) then (depotref20_Legal.j0 k true t152 t153 t154 false true) else (if t153.toList = ([] : List UInt8) then (depotref20_Legal.j0 k true t152 t153 t154 false true) else (if 0 < (t153.size : Int) then ((depotref20_digit.f (bt t153 0)).bind fun t160 => (depotref20_Legal.j0 k (!t160) t152 t153 t154 false true)) else (none)))) = some r := by rw [if_pos rfl] at H; exact H
    clear H
    have H := H1
    clear H1
    by_cases c26 : t154.toList = ([] : List UInt8)
    ·rw [if_pos c26] at H
     have c26b0 : (t154.toList == ([] : List UInt8)) = true := beq_iff_eq.mpr c26
     have c26b1 : (t154.toList != ([] : List UInt8)) = false := bne_eq_false_iff_eq.mpr c26
     clear c26
     have H' := Aside0.mk H
     clear H
     have hcz27_0 : w5.cell? ⟨gb157, 0, none⟩ = some (.string (⟨#[]⟩ : ByteArray)) := (blk_cell BK157.out 0).trans rfl
     have hcz27_1 : w5.cell? ⟨gb157, 1, none⟩ = some (.string (⟨#[]⟩ : ByteArray)) := (blk_cell BK157.out 1).trans rfl
     have hcz27_2 : w5.cell? ⟨gb157, 2, none⟩ = some (.string (⟨#[]⟩ : ByteArray)) := (blk_cell BK157.out 2).trans rfl
     have hcz27_3 : w5.cell? ⟨gb157, 3, none⟩ = some (.bool false) := (blk_cell BK157.out 3).trans rfl
     have hcz27_4 : w5.cell? ⟨gb157, 4, none⟩ = some (.bool false) := (blk_cell BK157.out 4).trans rfl
     have hfz27_0 := blk_frozen BK157.out 0
     have hfz27_1 := blk_frozen BK157.out 1
     have hfz27_2 := blk_frozen BK157.out 2
     have hfz27_3 := blk_frozen BK157.out 3
     have hfz27_4 := blk_frozen BK157.out 4
     go_wp2
     go_meet
     case rel => exact ⟨_, (true), (by first | rfl | (simp; done) | (simp [*]; done)), H', ⟨by first | omega | exact Nat.le_refl _⟩, ⟨by (with_reducible repeat (first | refine blk_drewN ?_ _ | refine blk_drew ?_ | refine blk_alloc ?_ _)); refine blk_put (cs := #[.string t152, .string t153, .string t154, .bool false, .bool false]) ?_ 4 _ rfl; (with_reducible repeat (first | refine blk_drewN ?_ _ | refine blk_drew ?_ | refine blk_alloc ?_ _)); refine blk_put (cs := #[.string t152, .string t153, .string t154, .bool false, .bool false]) ?_ 3 _ rfl; (with_reducible repeat (first | refine blk_drewN ?_ _ | refine blk_drew ?_ | refine blk_alloc ?_ _)); refine blk_put (cs := #[.string t152, .string t153, .string (⟨#[]⟩ : ByteArray), .bool false, .bool false]) ?_ 2 _ rfl; (with_reducible repeat (first | refine blk_drewN ?_ _ | refine blk_drew ?_ | refine blk_alloc ?_ _)); refine blk_put (cs := #[.string t152, .string (⟨#[]⟩ : ByteArray), .string (⟨#[]⟩ : ByteArray), .bool false, .bool false]) ?_ 1 _ rfl; (with_reducible repeat (first | refine blk_drewN ?_ _ | refine blk_drew ?_ | refine blk_alloc ?_ _)); refine blk_put (cs := #[.string (⟨#[]⟩ : ByteArray), .string (⟨#[]⟩ : ByteArray), .string (⟨#[]⟩ : ByteArray), .bool false, .bool false]) ?_ 0 _ rfl; (with_reducible repeat (first | refine blk_drewN ?_ _ | refine blk_drew ?_ | refine blk_alloc ?_ _)); exact BK157.out⟩, ⟨by repeat (first | (with_reducible first | exact HB.out | apply below_alloc | apply pw_below_drewN | apply below_drew1 | refine below_set ?_ GE157.out) | exact HB.out)⟩⟩
    ·rw [if_neg c26] at H
     have c26b0 : (t154.toList == ([] : List UInt8)) = false := beq_eq_false_iff_ne.mpr c26
     have c26b1 : (t154.toList != ([] : List UInt8)) = true := bne_iff_ne.mpr c26
     by_cases c28 : t153.toList = ([] : List UInt8)
     ·rw [if_pos c28] at H
      have c28b0 : (t153.toList == ([] : List UInt8)) = true := beq_iff_eq.mpr c28
      have c28b1 : (t153.toList != ([] : List UInt8)) = false := bne_eq_false_iff_eq.mpr c28
      clear c28
      have H' := Aside0.mk H
      clear H
      have hcz29_0 : w5.cell? ⟨gb157, 0, none⟩ = some (.string (⟨#[]⟩ : ByteArray)) := (blk_cell BK157.out 0).trans rfl
      have hcz29_1 : w5.cell? ⟨gb157, 1, none⟩ = some (.string (⟨#[]⟩ : ByteArray)) := (blk_cell BK157.out 1).trans rfl
      have hcz29_2 : w5.cell? ⟨gb157, 2, none⟩ = some (.string (⟨#[]⟩ : ByteArray)) := (blk_cell BK157.out 2).trans rfl
      have hcz29_3 : w5.cell? ⟨gb157, 3, none⟩ = some (.bool false) := (blk_cell BK157.out 3).trans rfl
      have hcz29_4 : w5.cell? ⟨gb157, 4, none⟩ = some (.bool false) := (blk_cell BK157.out 4).trans rfl
      have hfz29_0 := blk_frozen BK157.out 0
      have hfz29_1 := blk_frozen BK157.out 1
      have hfz29_2 := blk_frozen BK157.out 2
      have hfz29_3 := blk_frozen BK157.out 3
      have hfz29_4 := blk_frozen BK157.out 4
      go_wp2
      go_meet
      case rel => exact ⟨_, (true), (by first | rfl | (simp; done) | (simp [*]; done)), H', ⟨by first | omega | exact Nat.le_refl _⟩, ⟨by (with_reducible repeat (first | refine blk_drewN ?_ _ | refine blk_drew ?_ | refine blk_alloc ?_ _)); refine blk_put (cs := #[.string t152, .string t153, .string t154, .bool false, .bool false]) ?_ 4 _ rfl; (with_reducible repeat (first | refine blk_drewN ?_ _ | refine blk_drew ?_ | refine blk_alloc ?_ _)); refine blk_put (cs := #[.string t152, .string t153, .string t154, .bool false, .bool false]) ?_ 3 _ rfl; (with_reducible repeat (first | refine blk_drewN ?_ _ | refine blk_drew ?_ | refine blk_alloc ?_ _)); refine blk_put (cs := #[.string t152, .string t153, .string (⟨#[]⟩ : ByteArray), .bool false, .bool false]) ?_ 2 _ rfl; (with_reducible repeat (first | refine blk_drewN ?_ _ | refine blk_drew ?_ | refine blk_alloc ?_ _)); refine blk_put (cs := #[.string t152, .string (⟨#[]⟩ : ByteArray), .string (⟨#[]⟩ : ByteArray), .bool false, .bool false]) ?_ 1 _ rfl; (with_reducible repeat (first | refine blk_drewN ?_ _ | refine blk_drew ?_ | refine blk_alloc ?_ _)); refine blk_put (cs := #[.string (⟨#[]⟩ : ByteArray), .string (⟨#[]⟩ : ByteArray), .string (⟨#[]⟩ : ByteArray), .bool false, .bool false]) ?_ 0 _ rfl; (with_reducible repeat (first | refine blk_drewN ?_ _ | refine blk_drew ?_ | refine blk_alloc ?_ _)); exact BK157.out⟩, ⟨by repeat (first | (with_reducible first | exact HB.out | apply below_alloc | apply pw_below_drewN | apply below_drew1 | refine below_set ?_ GE157.out) | exact HB.out)⟩⟩
     ·rw [if_neg c28] at H
      have c28b0 : (t153.toList == ([] : List UInt8)) = false := beq_eq_false_iff_ne.mpr c28
      have c28b1 : (t153.toList != ([] : List UInt8)) = true := bne_iff_ne.mpr c28
      by_cases c30 : 0 < (t153.size : Int)
      ·rw [if_pos c30] at H
       have c30b0 : decide (0 < (t153.size : Int)) = true := decide_eq_true c30
       have c30b1 : decide (0 < t153.size) = true := decide_eq_true (by omega)
       clear c30
       replace H := Option.bind_eq_some_iff.mp H
       obtain ⟨t160, A320, H⟩ := H
       replace H : (depotref20_Legal.j0 k (!t160) t152 t153 t154 false true) = some r := H
       have A32 := Aside0.mk A320
       clear A320
       have H' := Aside0.mk H
       clear H
       have hcz33_0 : w5.cell? ⟨gb157, 0, none⟩ = some (.string (⟨#[]⟩ : ByteArray)) := (blk_cell BK157.out 0).trans rfl
       have hcz33_1 : w5.cell? ⟨gb157, 1, none⟩ = some (.string (⟨#[]⟩ : ByteArray)) := (blk_cell BK157.out 1).trans rfl
       have hcz33_2 : w5.cell? ⟨gb157, 2, none⟩ = some (.string (⟨#[]⟩ : ByteArray)) := (blk_cell BK157.out 2).trans rfl
       have hcz33_3 : w5.cell? ⟨gb157, 3, none⟩ = some (.bool false) := (blk_cell BK157.out 3).trans rfl
       have hcz33_4 : w5.cell? ⟨gb157, 4, none⟩ = some (.bool false) := (blk_cell BK157.out 4).trans rfl
       have hfz33_0 := blk_frozen BK157.out 0
       have hfz33_1 := blk_frozen BK157.out 1
       have hfz33_2 := blk_frozen BK157.out 2
       have hfz33_3 := blk_frozen BK157.out 3
       have hfz33_4 := blk_frozen BK157.out 4
       have p31 : 0 ≤ (0 : Int) := (by omega)
       have q31 : 0 < t153.size := (by have : (0 : Int) < (t153.size : Int) := of_decide_eq_true (by first | (with_reducible assumption) | assumption); omega)
       have hx31 : ∀ h : 0 < t153.size, ((t153[0]'h).toNat : Int) = bt t153 0 := bt_at t153 0
       clear p31
       have qi31 : (0 < (t153.size : Int)) = True := eq_true (of_decide_eq_true (by first | (with_reducible assumption) | assumption))
       replace q31 := eq_true q31
       go_wp2_with (first | (go_at_call 74; (with_reducible refine (depotref20_digit.calls (bt t153 0) t160 _ A32.out).mono ?_); rintro e w' ⟨rfl, ⟨nd, rfl⟩⟩))
       go_meet
       case rel => exact ⟨_, (!t160), (by first | rfl | (simp; done) | (simp [*]; done)), H', ⟨by first | omega | exact Nat.le_refl _⟩, ⟨by (with_reducible repeat (first | refine blk_drewN ?_ _ | refine blk_drew ?_ | refine blk_alloc ?_ _)); refine blk_put (cs := #[.string t152, .string t153, .string t154, .bool false, .bool false]) ?_ 4 _ rfl; (with_reducible repeat (first | refine blk_drewN ?_ _ | refine blk_drew ?_ | refine blk_alloc ?_ _)); refine blk_put (cs := #[.string t152, .string t153, .string t154, .bool false, .bool false]) ?_ 3 _ rfl; (with_reducible repeat (first | refine blk_drewN ?_ _ | refine blk_drew ?_ | refine blk_alloc ?_ _)); refine blk_put (cs := #[.string t152, .string t153, .string (⟨#[]⟩ : ByteArray), .bool false, .bool false]) ?_ 2 _ rfl; (with_reducible repeat (first | refine blk_drewN ?_ _ | refine blk_drew ?_ | refine blk_alloc ?_ _)); refine blk_put (cs := #[.string t152, .string (⟨#[]⟩ : ByteArray), .string (⟨#[]⟩ : ByteArray), .bool false, .bool false]) ?_ 1 _ rfl; (with_reducible repeat (first | refine blk_drewN ?_ _ | refine blk_drew ?_ | refine blk_alloc ?_ _)); refine blk_put (cs := #[.string (⟨#[]⟩ : ByteArray), .string (⟨#[]⟩ : ByteArray), .string (⟨#[]⟩ : ByteArray), .bool false, .bool false]) ?_ 0 _ rfl; (with_reducible repeat (first | refine blk_drewN ?_ _ | refine blk_drew ?_ | refine blk_alloc ?_ _)); exact BK157.out⟩, ⟨by repeat (first | (with_reducible first | exact HB.out | apply below_alloc | apply pw_below_drewN | apply below_drew1 | refine below_set ?_ GE157.out) | exact HB.out)⟩⟩
      ·rw [if_neg c30] at H
       exact absurd H (by simp)
   ·replace c25 := Bool.eq_false_iff.mpr c25
    subst c25
    have H1 : (if t153.toList = ([] : List UInt8) then (depotref20_Legal.j0 k true t152 t153 t154 false false) else (if 0 < (t153.size : Int) then ((depotref20_digit.f (bt t153 0)).bind fun t161 => (depotref20_Legal.j0 k (!t161) t152 t153 t154 false false)) else (none))) = some r := by rw [if_neg (show ¬ (false = true) by decide)] at H; exact H
    clear H
    have H := H1
    clear H1
    by_cases c34 : t153.toList = ([] : List UInt8)
    ·rw [if_pos c34] at H
     have c34b0 : (t153.toList == ([] : List UInt8)) = true := beq_iff_eq.mpr c34
     have c34b1 : (t153.toList != ([] : List UInt8)) = false := bne_eq_false_iff_eq.mpr c34
     clear c34
     have H' := Aside0.mk H
     clear H
     have hcz35_0 : w5.cell? ⟨gb157, 0, none⟩ = some (.string (⟨#[]⟩ : ByteArray)) := (blk_cell BK157.out 0).trans rfl
     have hcz35_1 : w5.cell? ⟨gb157, 1, none⟩ = some (.string (⟨#[]⟩ : ByteArray)) := (blk_cell BK157.out 1).trans rfl
     have hcz35_2 : w5.cell? ⟨gb157, 2, none⟩ = some (.string (⟨#[]⟩ : ByteArray)) := (blk_cell BK157.out 2).trans rfl
     have hcz35_3 : w5.cell? ⟨gb157, 3, none⟩ = some (.bool false) := (blk_cell BK157.out 3).trans rfl
     have hcz35_4 : w5.cell? ⟨gb157, 4, none⟩ = some (.bool false) := (blk_cell BK157.out 4).trans rfl
     have hfz35_0 := blk_frozen BK157.out 0
     have hfz35_1 := blk_frozen BK157.out 1
     have hfz35_2 := blk_frozen BK157.out 2
     have hfz35_3 := blk_frozen BK157.out 3
     have hfz35_4 := blk_frozen BK157.out 4
     go_wp2
     go_meet
     case rel => exact ⟨_, (true), (by first | rfl | (simp; done) | (simp [*]; done)), H', ⟨by first | omega | exact Nat.le_refl _⟩, ⟨by (with_reducible repeat (first | refine blk_drewN ?_ _ | refine blk_drew ?_ | refine blk_alloc ?_ _)); refine blk_put (cs := #[.string t152, .string t153, .string t154, .bool false, .bool false]) ?_ 4 _ rfl; (with_reducible repeat (first | refine blk_drewN ?_ _ | refine blk_drew ?_ | refine blk_alloc ?_ _)); refine blk_put (cs := #[.string t152, .string t153, .string t154, .bool false, .bool false]) ?_ 3 _ rfl; (with_reducible repeat (first | refine blk_drewN ?_ _ | refine blk_drew ?_ | refine blk_alloc ?_ _)); refine blk_put (cs := #[.string t152, .string t153, .string (⟨#[]⟩ : ByteArray), .bool false, .bool false]) ?_ 2 _ rfl; (with_reducible repeat (first | refine blk_drewN ?_ _ | refine blk_drew ?_ | refine blk_alloc ?_ _)); refine blk_put (cs := #[.string t152, .string (⟨#[]⟩ : ByteArray), .string (⟨#[]⟩ : ByteArray), .bool false, .bool false]) ?_ 1 _ rfl; (with_reducible repeat (first | refine blk_drewN ?_ _ | refine blk_drew ?_ | refine blk_alloc ?_ _)); refine blk_put (cs := #[.string (⟨#[]⟩ : ByteArray), .string (⟨#[]⟩ : ByteArray), .string (⟨#[]⟩ : ByteArray), .bool false, .bool false]) ?_ 0 _ rfl; (with_reducible repeat (first | refine blk_drewN ?_ _ | refine blk_drew ?_ | refine blk_alloc ?_ _)); exact BK157.out⟩, ⟨by repeat (first | (with_reducible first | exact HB.out | apply below_alloc | apply pw_below_drewN | apply below_drew1 | refine below_set ?_ GE157.out) | exact HB.out)⟩⟩
    ·rw [if_neg c34] at H
     have c34b0 : (t153.toList == ([] : List UInt8)) = false := beq_eq_false_iff_ne.mpr c34
     have c34b1 : (t153.toList != ([] : List UInt8)) = true := bne_iff_ne.mpr c34
     by_cases c36 : 0 < (t153.size : Int)
     ·rw [if_pos c36] at H
      have c36b0 : decide (0 < (t153.size : Int)) = true := decide_eq_true c36
      have c36b1 : decide (0 < t153.size) = true := decide_eq_true (by omega)
      clear c36
      replace H := Option.bind_eq_some_iff.mp H
      obtain ⟨t161, A380, H⟩ := H
      replace H : (depotref20_Legal.j0 k (!t161) t152 t153 t154 false false) = some r := H
      have A38 := Aside0.mk A380
      clear A380
      have H' := Aside0.mk H
      clear H
      have hcz39_0 : w5.cell? ⟨gb157, 0, none⟩ = some (.string (⟨#[]⟩ : ByteArray)) := (blk_cell BK157.out 0).trans rfl
      have hcz39_1 : w5.cell? ⟨gb157, 1, none⟩ = some (.string (⟨#[]⟩ : ByteArray)) := (blk_cell BK157.out 1).trans rfl
      have hcz39_2 : w5.cell? ⟨gb157, 2, none⟩ = some (.string (⟨#[]⟩ : ByteArray)) := (blk_cell BK157.out 2).trans rfl
      have hcz39_3 : w5.cell? ⟨gb157, 3, none⟩ = some (.bool false) := (blk_cell BK157.out 3).trans rfl
      have hcz39_4 : w5.cell? ⟨gb157, 4, none⟩ = some (.bool false) := (blk_cell BK157.out 4).trans rfl
      have hfz39_0 := blk_frozen BK157.out 0
      have hfz39_1 := blk_frozen BK157.out 1
      have hfz39_2 := blk_frozen BK157.out 2
      have hfz39_3 := blk_frozen BK157.out 3
      have hfz39_4 := blk_frozen BK157.out 4
      have p37 : 0 ≤ (0 : Int) := (by omega)
      have q37 : 0 < t153.size := (by have : (0 : Int) < (t153.size : Int) := of_decide_eq_true (by first | (with_reducible assumption) | assumption); omega)
      have hx37 : ∀ h : 0 < t153.size, ((t153[0]'h).toNat : Int) = bt t153 0 := bt_at t153 0
      clear p37
      have qi37 : (0 < (t153.size : Int)) = True := eq_true (of_decide_eq_true (by first | (with_reducible assumption) | assumption))
      replace q37 := eq_true q37
      go_wp2_with (first | (go_at_call 74; (with_reducible refine (depotref20_digit.calls (bt t153 0) t161 _ A38.out).mono ?_); rintro e w' ⟨rfl, ⟨nd, rfl⟩⟩))
      go_meet
      case rel => exact ⟨_, (!t161), (by first | rfl | (simp; done) | (simp [*]; done)), H', ⟨by first | omega | exact Nat.le_refl _⟩, ⟨by (with_reducible repeat (first | refine blk_drewN ?_ _ | refine blk_drew ?_ | refine blk_alloc ?_ _)); refine blk_put (cs := #[.string t152, .string t153, .string t154, .bool false, .bool false]) ?_ 4 _ rfl; (with_reducible repeat (first | refine blk_drewN ?_ _ | refine blk_drew ?_ | refine blk_alloc ?_ _)); refine blk_put (cs := #[.string t152, .string t153, .string t154, .bool false, .bool false]) ?_ 3 _ rfl; (with_reducible repeat (first | refine blk_drewN ?_ _ | refine blk_drew ?_ | refine blk_alloc ?_ _)); refine blk_put (cs := #[.string t152, .string t153, .string (⟨#[]⟩ : ByteArray), .bool false, .bool false]) ?_ 2 _ rfl; (with_reducible repeat (first | refine blk_drewN ?_ _ | refine blk_drew ?_ | refine blk_alloc ?_ _)); refine blk_put (cs := #[.string t152, .string (⟨#[]⟩ : ByteArray), .string (⟨#[]⟩ : ByteArray), .bool false, .bool false]) ?_ 1 _ rfl; (with_reducible repeat (first | refine blk_drewN ?_ _ | refine blk_drew ?_ | refine blk_alloc ?_ _)); refine blk_put (cs := #[.string (⟨#[]⟩ : ByteArray), .string (⟨#[]⟩ : ByteArray), .string (⟨#[]⟩ : ByteArray), .bool false, .bool false]) ?_ 0 _ rfl; (with_reducible repeat (first | refine blk_drewN ?_ _ | refine blk_drew ?_ | refine blk_alloc ?_ _)); exact BK157.out⟩, ⟨by repeat (first | (with_reducible first | exact HB.out | apply below_alloc | apply pw_below_drewN | apply below_drew1 | refine below_set ?_ GE157.out) | exact HB.out)⟩⟩
     ·rw [if_neg c36] at H
      exact absurd H (by simp)
 case rest =>
  clear HC3
  try clear c1
  try clear p1
  try clear q1
  try clear hx1
  try clear qi1
  try clear c2
  try clear p2
  try clear q2
  try clear hx2
  try clear qi2
  try clear c3
  try clear p3
  try clear q3
  try clear hx3
  try clear qi3
  try clear c5
  try clear c7
  try clear c8
  try clear c8b0
  try clear c8b1
  try clear c10
  try clear c11
  try clear c11b0
  try clear c11b1
  try clear c13
  try clear c13b0
  try clear c13b1
  try clear c15
  try clear c15b0
  try clear c15b1
  try clear p16
  try clear q16
  try clear hx16
  try clear qi16
  try clear c19
  try clear c19b0
  try clear c19b1
  try clear c21
  try clear c21b0
  try clear c21b1
  try clear p22
  try clear q22
  try clear hx22
  try clear qi22
  try clear c25
  try clear c26
  try clear c26b0
  try clear c26b1
  try clear c28
  try clear c28b0
  try clear c28b1
  try clear c30
  try clear c30b0
  try clear c30b1
  try clear p31
  try clear q31
  try clear hx31
  try clear qi31
  try clear c34
  try clear c34b0
  try clear c34b1
  try clear c36
  try clear c36b0
  try clear c36b1
  try clear p37
  try clear q37
  try clear hx37
  try clear qi37
  try clear hcz12_0
  try clear hcz12_1
  try clear hcz12_2
  try clear hcz12_3
  try clear hcz12_4
  try clear hcz14_0
  try clear hcz14_1
  try clear hcz14_2
  try clear hcz14_3
  try clear hcz14_4
  try clear hcz18_0
  try clear hcz18_1
  try clear hcz18_2
  try clear hcz18_3
  try clear hcz18_4
  try clear hcz20_0
  try clear hcz20_1
  try clear hcz20_2
  try clear hcz20_3
  try clear hcz20_4
  try clear hcz24_0
  try clear hcz24_1
  try clear hcz24_2
  try clear hcz24_3
  try clear hcz24_4
  try clear hcz27_0
  try clear hcz27_1
  try clear hcz27_2
  try clear hcz27_3
  try clear hcz27_4
  try clear hcz29_0
  try clear hcz29_1
  try clear hcz29_2
  try clear hcz29_3
  try clear hcz29_4
  try clear hcz33_0
  try clear hcz33_1
  try clear hcz33_2
  try clear hcz33_3
  try clear hcz33_4
  try clear hcz35_0
  try clear hcz35_1
  try clear hcz35_2
  try clear hcz35_3
  try clear hcz35_4
  try clear hcz39_0
  try clear hcz39_1
  try clear hcz39_2
  try clear hcz39_3
  try clear hcz39_4
  try clear hcz6_0
  try clear hcz6_1
  try clear hcz6_2
  try clear hcz6_3
  try clear hcz6_4
  try clear hcz9_0
  try clear hcz9_1
  try clear hcz9_2
  try clear hcz9_3
  try clear hcz9_4
  try clear hfz12_0
  try clear hfz12_1
  try clear hfz12_2
  try clear hfz12_3
  try clear hfz12_4
  try clear hfz14_0
  try clear hfz14_1
  try clear hfz14_2
  try clear hfz14_3
  try clear hfz14_4
  try clear hfz18_0
  try clear hfz18_1
  try clear hfz18_2
  try clear hfz18_3
  try clear hfz18_4
  try clear hfz20_0
  try clear hfz20_1
  try clear hfz20_2
  try clear hfz20_3
  try clear hfz20_4
  try clear hfz24_0
  try clear hfz24_1
  try clear hfz24_2
  try clear hfz24_3
  try clear hfz24_4
  try clear hfz27_0
  try clear hfz27_1
  try clear hfz27_2
  try clear hfz27_3
  try clear hfz27_4
  try clear hfz29_0
  try clear hfz29_1
  try clear hfz29_2
  try clear hfz29_3
  try clear hfz29_4
  try clear hfz33_0
  try clear hfz33_1
  try clear hfz33_2
  try clear hfz33_3
  try clear hfz33_4
  try clear hfz35_0
  try clear hfz35_1
  try clear hfz35_2
  try clear hfz35_3
  try clear hfz35_4
  try clear hfz39_0
  try clear hfz39_1
  try clear hfz39_2
  try clear hfz39_3
  try clear hfz39_4
  try clear hfz6_0
  try clear hfz6_1
  try clear hfz6_2
  try clear hfz6_3
  try clear hfz6_4
  try clear hfz9_0
  try clear hfz9_1
  try clear hfz9_2
  try clear hfz9_3
  try clear hfz9_4
  try clear p16
  try clear p22
  try clear p31
  try clear p37
  try clear q16
  try clear q22
  try clear q31
  try clear q37
  obtain ⟨kq, x38_2, rfl, HA, HJ2, BK157, HB⟩ := hcut
  cases kq with
  | zero => exact absurd HA.out (by simp [depotref20_Legal.j0])
  | succ kj2 =>
   have H := HA.out
   clear HA
   simp only [depotref20_Legal.j0] at H
   by_cases c40 : x38_2 = true
   ·subst c40
    have H1 : (some false) = some r := by rw [if_pos rfl] at H; exact H
    clear H
    have H := H1
    clear H1
    obtain rfl := Option.some.inj H
    go_wp2
    go_ret
    exact ⟨by first | rfl | (simp [errW_none, errW_some] <;> rfl) | (simp [*, errW_none, errW_some] <;> rfl) | (simp [errW_none, errW_some, Go.Proofs.YtmocooihkobdjaaDoor.listNe]; done), by repeat (first | (with_reducible first | exact HB.out | apply below_alloc | apply pw_below_drewN | apply below_drew1 | refine below_set ?_ GE157.out) | exact HB.out)⟩
   ·replace c40 := Bool.eq_false_iff.mpr c40
    subst c40
    have H1 : (depotref20_Legal.l0 kj2 0 t152 t153 t154 t155 t156) = some r := by rw [if_neg (show ¬ (false = true) by decide)] at H; exact H
    clear H
    have H := H1
    clear H1
    have H' := Aside0.mk H
    clear H
    go_wp2
    go_loopg [4] kj2 (fun kq v4 w' => ∃ (x4_2 : Int), v4 = .int .i64 x4_2 ∧ Aside0 (depotref20_Legal.l0 kq x4_2 t152 t153 t154 t155 t156 = some r) ∧ Aside0 (kq ≤ kj2) ∧ Aside0 (w'.heap[gb157]? = some (.cells #[.string t152, .string t153, .string t154, .bool t155, .bool t156] 112 (0, 0))) ∧ Aside0 (Below w.heap.size w w'))
    case atStart => exact ⟨(0), (by first | rfl | (simp; done) | (simp [*]; done)), H', ⟨Nat.le_refl _⟩, ⟨by (with_reducible repeat (first | refine blk_drewN ?_ _ | refine blk_drew ?_ | refine blk_alloc ?_ _)); exact BK157.out⟩, ⟨by repeat (first | (with_reducible first | exact HB.out | apply below_alloc | apply pw_below_drewN | apply below_drew1 | refine below_set ?_ GE157.out) | exact HB.out)⟩⟩
    case round =>
     clear H'
     try clear c1
     try clear p1
     try clear q1
     try clear hx1
     try clear qi1
     try clear c2
     try clear p2
     try clear q2
     try clear hx2
     try clear qi2
     try clear c3
     try clear p3
     try clear q3
     try clear hx3
     try clear qi3
     try clear c4
     try clear c5
     try clear c7
     try clear c8
     try clear c8b0
     try clear c8b1
     try clear c10
     try clear c11
     try clear c11b0
     try clear c11b1
     try clear c13
     try clear c13b0
     try clear c13b1
     try clear c15
     try clear c15b0
     try clear c15b1
     try clear p16
     try clear q16
     try clear hx16
     try clear qi16
     try clear c19
     try clear c19b0
     try clear c19b1
     try clear c21
     try clear c21b0
     try clear c21b1
     try clear p22
     try clear q22
     try clear hx22
     try clear qi22
     try clear c25
     try clear c26
     try clear c26b0
     try clear c26b1
     try clear c28
     try clear c28b0
     try clear c28b1
     try clear c30
     try clear c30b0
     try clear c30b1
     try clear p31
     try clear q31
     try clear hx31
     try clear qi31
     try clear c34
     try clear c34b0
     try clear c34b1
     try clear c36
     try clear c36b0
     try clear c36b1
     try clear p37
     try clear q37
     try clear hx37
     try clear qi37
     try clear c40
     try clear hcz12_0
     try clear hcz12_1
     try clear hcz12_2
     try clear hcz12_3
     try clear hcz12_4
     try clear hcz14_0
     try clear hcz14_1
     try clear hcz14_2
     try clear hcz14_3
     try clear hcz14_4
     try clear hcz18_0
     try clear hcz18_1
     try clear hcz18_2
     try clear hcz18_3
     try clear hcz18_4
     try clear hcz20_0
     try clear hcz20_1
     try clear hcz20_2
     try clear hcz20_3
     try clear hcz20_4
     try clear hcz24_0
     try clear hcz24_1
     try clear hcz24_2
     try clear hcz24_3
     try clear hcz24_4
     try clear hcz27_0
     try clear hcz27_1
     try clear hcz27_2
     try clear hcz27_3
     try clear hcz27_4
     try clear hcz29_0
     try clear hcz29_1
     try clear hcz29_2
     try clear hcz29_3
     try clear hcz29_4
     try clear hcz33_0
     try clear hcz33_1
     try clear hcz33_2
     try clear hcz33_3
     try clear hcz33_4
     try clear hcz35_0
     try clear hcz35_1
     try clear hcz35_2
     try clear hcz35_3
     try clear hcz35_4
     try clear hcz39_0
     try clear hcz39_1
     try clear hcz39_2
     try clear hcz39_3
     try clear hcz39_4
     try clear hcz6_0
     try clear hcz6_1
     try clear hcz6_2
     try clear hcz6_3
     try clear hcz6_4
     try clear hcz9_0
     try clear hcz9_1
     try clear hcz9_2
     try clear hcz9_3
     try clear hcz9_4
     try clear hfz12_0
     try clear hfz12_1
     try clear hfz12_2
     try clear hfz12_3
     try clear hfz12_4
     try clear hfz14_0
     try clear hfz14_1
     try clear hfz14_2
     try clear hfz14_3
     try clear hfz14_4
     try clear hfz18_0
     try clear hfz18_1
     try clear hfz18_2
     try clear hfz18_3
     try clear hfz18_4
     try clear hfz20_0
     try clear hfz20_1
     try clear hfz20_2
     try clear hfz20_3
     try clear hfz20_4
     try clear hfz24_0
     try clear hfz24_1
     try clear hfz24_2
     try clear hfz24_3
     try clear hfz24_4
     try clear hfz27_0
     try clear hfz27_1
     try clear hfz27_2
     try clear hfz27_3
     try clear hfz27_4
     try clear hfz29_0
     try clear hfz29_1
     try clear hfz29_2
     try clear hfz29_3
     try clear hfz29_4
     try clear hfz33_0
     try clear hfz33_1
     try clear hfz33_2
     try clear hfz33_3
     try clear hfz33_4
     try clear hfz35_0
     try clear hfz35_1
     try clear hfz35_2
     try clear hfz35_3
     try clear hfz35_4
     try clear hfz39_0
     try clear hfz39_1
     try clear hfz39_2
     try clear hfz39_3
     try clear hfz39_4
     try clear hfz6_0
     try clear hfz6_1
     try clear hfz6_2
     try clear hfz6_3
     try clear hfz6_4
     try clear hfz9_0
     try clear hfz9_1
     try clear hfz9_2
     try clear hfz9_3
     try clear hfz9_4
     try clear p1
     try clear p16
     try clear p2
     try clear p22
     try clear p3
     try clear p31
     try clear p37
     try clear q1
     try clear q16
     try clear q2
     try clear q22
     try clear q3
     try clear q31
     try clear q37
     obtain ⟨x4_2, rfl, HA, HK2, BK157, HB⟩ := hrel
     cases gk with
     | zero => exact absurd HA.out (by simp [depotref20_Legal.l0])
     | succ k2 =>
      have H := HA.out
      clear HA
      simp only [depotref20_Legal.l0] at H
      by_cases c41 : x4_2 < (t152.size : Int)
      ·rw [if_pos c41] at H
       have c41b0 : decide (x4_2 < (t152.size : Int)) = true := decide_eq_true c41
       clear c41
       by_cases c42 : 0 ≤ x4_2
       ·rw [if_pos c42] at H
        have c42b0 : decide (0 ≤ x4_2) = true := decide_eq_true c42
        clear c42
        replace H := Option.bind_eq_some_iff.mp H
        obtain ⟨t162, A440, H⟩ := H
        replace H : (if t162 = true then (depotref20_Legal.l0 k2 (wrap64 (x4_2 + 1)) t152 t153 t154 t155 t156) else (some false)) = some r := H
        have A44 := Aside0.mk A440
        clear A440
        by_cases c45 : t162 = true
        ·subst c45
         have H1 : (depotref20_Legal.l0 k2 (wrap64 (x4_2 + 1)) t152 t153 t154 t155 t156) = some r := by rw [if_pos rfl] at H; exact H
         clear H
         have H := H1
         clear H1
         have H' := Aside0.mk H
         clear H
         have hcz46_0 : wr.cell? ⟨gb157, 0, none⟩ = some (.string t152) := (blk_cell BK157.out 0).trans rfl
         have hcz46_1 : wr.cell? ⟨gb157, 1, none⟩ = some (.string t153) := (blk_cell BK157.out 1).trans rfl
         have hcz46_2 : wr.cell? ⟨gb157, 2, none⟩ = some (.string t154) := (blk_cell BK157.out 2).trans rfl
         have hcz46_3 : wr.cell? ⟨gb157, 3, none⟩ = some (.bool t155) := (blk_cell BK157.out 3).trans rfl
         have hcz46_4 : wr.cell? ⟨gb157, 4, none⟩ = some (.bool t156) := (blk_cell BK157.out 4).trans rfl
         have hfz46_0 := blk_frozen BK157.out 0
         have hfz46_1 := blk_frozen BK157.out 1
         have hfz46_2 := blk_frozen BK157.out 2
         have hfz46_3 := blk_frozen BK157.out 3
         have hfz46_4 := blk_frozen BK157.out 4
         have p43 : 0 ≤ (x4_2 : Int) := of_decide_eq_true (by first | (with_reducible assumption) | assumption)
         have q43 : x4_2 < (t152.size : Int) := of_decide_eq_true (by first | (with_reducible assumption) | assumption)
         have hx43 := bt_at t152 x4_2
         replace p43 := eq_true p43
         replace q43 := eq_true q43
         go_wp2_with (first | ((with_reducible refine gate_callee (f := 74) rfl ?_); refine goesL_ (some 50) rfl rfl Tryd.func74 (by kernel_rfl) rfl #[.int .u8 (bt t152 x4_2)] rfl (by (try simp only [List.map_toArray, List.map_cons, List.map_nil]); first | done | rfl | (simp only [List.length_drop, List.length_take]; rfl) | (simp; done)) ?_; (with_reducible refine (depotref20_digit.calls (bt t152 x4_2) true _ A44.out).mono ?_); rintro e w' ⟨rfl, ⟨nd, rfl⟩⟩; refine ⟨_, rfl, ?_⟩))
         go_roundg k2
         case measure => have := HJ2.out; have := HK2.out; omega
         case rel => exact ⟨(wrap64 (x4_2 + 1)), (by first | rfl | (simp; done) | (simp [*]; done)), H', ⟨by have := HJ2.out; have := HK2.out; omega⟩, ⟨by (with_reducible repeat (first | refine blk_drewN ?_ _ | refine blk_drew ?_ | refine blk_alloc ?_ _)); exact BK157.out⟩, ⟨by repeat (first | (with_reducible first | exact HB.out | apply below_alloc | apply pw_below_drewN | apply below_drew1 | refine below_set ?_ GE157.out) | exact HB.out)⟩⟩
        ·replace c45 := Bool.eq_false_iff.mpr c45
         subst c45
         have H1 : (some false) = some r := by rw [if_neg (show ¬ (false = true) by decide)] at H; exact H
         clear H
         have H := H1
         clear H1
         obtain rfl := Option.some.inj H
         have hcz47_0 : wr.cell? ⟨gb157, 0, none⟩ = some (.string t152) := (blk_cell BK157.out 0).trans rfl
         have hcz47_1 : wr.cell? ⟨gb157, 1, none⟩ = some (.string t153) := (blk_cell BK157.out 1).trans rfl
         have hcz47_2 : wr.cell? ⟨gb157, 2, none⟩ = some (.string t154) := (blk_cell BK157.out 2).trans rfl
         have hcz47_3 : wr.cell? ⟨gb157, 3, none⟩ = some (.bool t155) := (blk_cell BK157.out 3).trans rfl
         have hcz47_4 : wr.cell? ⟨gb157, 4, none⟩ = some (.bool t156) := (blk_cell BK157.out 4).trans rfl
         have hfz47_0 := blk_frozen BK157.out 0
         have hfz47_1 := blk_frozen BK157.out 1
         have hfz47_2 := blk_frozen BK157.out 2
         have hfz47_3 := blk_frozen BK157.out 3
         have hfz47_4 := blk_frozen BK157.out 4
         have p43 : 0 ≤ (x4_2 : Int) := of_decide_eq_true (by first | (with_reducible assumption) | assumption)
         have q43 : x4_2 < (t152.size : Int) := of_decide_eq_true (by first | (with_reducible assumption) | assumption)
         have hx43 := bt_at t152 x4_2
         replace p43 := eq_true p43
         replace q43 := eq_true q43
         go_wp2_with (first | ((with_reducible refine gate_callee (f := 74) rfl ?_); refine goesL_ (some 50) rfl rfl Tryd.func74 (by kernel_rfl) rfl #[.int .u8 (bt t152 x4_2)] rfl (by (try simp only [List.map_toArray, List.map_cons, List.map_nil]); first | done | rfl | (simp only [List.length_drop, List.length_take]; rfl) | (simp; done)) ?_; (with_reducible refine (depotref20_digit.calls (bt t152 x4_2) false _ A44.out).mono ?_); rintro e w' ⟨rfl, ⟨nd, rfl⟩⟩; refine ⟨_, rfl, ?_⟩))
         go_ret
         exact ⟨by first | rfl | (simp [errW_none, errW_some] <;> rfl) | (simp [*, errW_none, errW_some] <;> rfl) | (simp [errW_none, errW_some, Go.Proofs.YtmocooihkobdjaaDoor.listNe]; done), by repeat (first | (with_reducible first | exact HB.out | apply below_alloc | apply pw_below_drewN | apply below_drew1 | refine below_set ?_ GE157.out) | exact HB.out)⟩
       ·rw [if_neg c42] at H
        exact absurd H (by simp)
      ·rw [if_neg c41] at H
       have c41b0 : decide (x4_2 < (t152.size : Int)) = false := decide_eq_false c41
       clear c41
       have H' := Aside0.mk H
       clear H
       have hcz48_0 : wr.cell? ⟨gb157, 0, none⟩ = some (.string t152) := (blk_cell BK157.out 0).trans rfl
       have hcz48_1 : wr.cell? ⟨gb157, 1, none⟩ = some (.string t153) := (blk_cell BK157.out 1).trans rfl
       have hcz48_2 : wr.cell? ⟨gb157, 2, none⟩ = some (.string t154) := (blk_cell BK157.out 2).trans rfl
       have hcz48_3 : wr.cell? ⟨gb157, 3, none⟩ = some (.bool t155) := (blk_cell BK157.out 3).trans rfl
       have hcz48_4 : wr.cell? ⟨gb157, 4, none⟩ = some (.bool t156) := (blk_cell BK157.out 4).trans rfl
       have hfz48_0 := blk_frozen BK157.out 0
       have hfz48_1 := blk_frozen BK157.out 1
       have hfz48_2 := blk_frozen BK157.out 2
       have hfz48_3 := blk_frozen BK157.out 3
       have hfz48_4 := blk_frozen BK157.out 4
       go_wp2
       go_loopg [5] k2 (fun kq v5 w' => ∃ (x5_3 : Int), v5 = .int .i64 x5_3 ∧ Aside0 (depotref20_Legal.l1 kq x5_3 t152 t153 t154 t155 t156 = some r) ∧ Aside0 (kq ≤ k2) ∧ Aside0 (w'.heap[gb157]? = some (.cells #[.string t152, .string t153, .string t154, .bool t155, .bool t156] 112 (0, 0))) ∧ Aside0 (Below w.heap.size w w'))
       case atStart => exact ⟨(0), (by first | rfl | (simp; done) | (simp [*]; done)), H', ⟨Nat.le_refl _⟩, ⟨by (with_reducible repeat (first | refine blk_drewN ?_ _ | refine blk_drew ?_ | refine blk_alloc ?_ _)); exact BK157.out⟩, ⟨by repeat (first | (with_reducible first | exact HB.out | apply below_alloc | apply pw_below_drewN | apply below_drew1 | refine below_set ?_ GE157.out) | exact HB.out)⟩⟩
       case round =>
        clear H'
        try clear c1
        try clear p1
        try clear q1
        try clear hx1
        try clear qi1
        try clear c2
        try clear p2
        try clear q2
        try clear hx2
        try clear qi2
        try clear c3
        try clear p3
        try clear q3
        try clear hx3
        try clear qi3
        try clear c4
        try clear p4
        try clear q4
        try clear hx4
        try clear c5
        try clear p6
        try clear c7
        try clear c8
        try clear c8b0
        try clear c8b1
        try clear c10
        try clear c11
        try clear c11b0
        try clear c11b1
        try clear c13
        try clear c13b0
        try clear c13b1
        try clear c15
        try clear c15b0
        try clear c15b1
        try clear p16
        try clear q16
        try clear hx16
        try clear qi16
        try clear c19
        try clear c19b0
        try clear c19b1
        try clear c21
        try clear c21b0
        try clear c21b1
        try clear p22
        try clear q22
        try clear hx22
        try clear qi22
        try clear c25
        try clear c26
        try clear c26b0
        try clear c26b1
        try clear c28
        try clear c28b0
        try clear c28b1
        try clear c30
        try clear c30b0
        try clear c30b1
        try clear p31
        try clear q31
        try clear hx31
        try clear qi31
        try clear c34
        try clear c34b0
        try clear c34b1
        try clear c36
        try clear c36b0
        try clear c36b1
        try clear p37
        try clear q37
        try clear hx37
        try clear qi37
        try clear c40
        try clear c41
        try clear c41b0
        try clear c42
        try clear c42b0
        try clear p43
        try clear q43
        try clear hx43
        try clear c45
        try clear hcz12_0
        try clear hcz12_1
        try clear hcz12_2
        try clear hcz12_3
        try clear hcz12_4
        try clear hcz14_0
        try clear hcz14_1
        try clear hcz14_2
        try clear hcz14_3
        try clear hcz14_4
        try clear hcz18_0
        try clear hcz18_1
        try clear hcz18_2
        try clear hcz18_3
        try clear hcz18_4
        try clear hcz20_0
        try clear hcz20_1
        try clear hcz20_2
        try clear hcz20_3
        try clear hcz20_4
        try clear hcz24_0
        try clear hcz24_1
        try clear hcz24_2
        try clear hcz24_3
        try clear hcz24_4
        try clear hcz27_0
        try clear hcz27_1
        try clear hcz27_2
        try clear hcz27_3
        try clear hcz27_4
        try clear hcz29_0
        try clear hcz29_1
        try clear hcz29_2
        try clear hcz29_3
        try clear hcz29_4
        try clear hcz33_0
        try clear hcz33_1
        try clear hcz33_2
        try clear hcz33_3
        try clear hcz33_4
        try clear hcz35_0
        try clear hcz35_1
        try clear hcz35_2
        try clear hcz35_3
        try clear hcz35_4
        try clear hcz39_0
        try clear hcz39_1
        try clear hcz39_2
        try clear hcz39_3
        try clear hcz39_4
        try clear hcz46_0
        try clear hcz46_1
        try clear hcz46_2
        try clear hcz46_3
        try clear hcz46_4
        try clear hcz47_0
        try clear hcz47_1
        try clear hcz47_2
        try clear hcz47_3
        try clear hcz47_4
        try clear hcz48_0
        try clear hcz48_1
        try clear hcz48_2
        try clear hcz48_3
        try clear hcz48_4
        try clear hcz6_0
        try clear hcz6_1
        try clear hcz6_2
        try clear hcz6_3
        try clear hcz6_4
        try clear hcz9_0
        try clear hcz9_1
        try clear hcz9_2
        try clear hcz9_3
        try clear hcz9_4
        try clear hfz12_0
        try clear hfz12_1
        try clear hfz12_2
        try clear hfz12_3
        try clear hfz12_4
        try clear hfz14_0
        try clear hfz14_1
        try clear hfz14_2
        try clear hfz14_3
        try clear hfz14_4
        try clear hfz18_0
        try clear hfz18_1
        try clear hfz18_2
        try clear hfz18_3
        try clear hfz18_4
        try clear hfz20_0
        try clear hfz20_1
        try clear hfz20_2
        try clear hfz20_3
        try clear hfz20_4
        try clear hfz24_0
        try clear hfz24_1
        try clear hfz24_2
        try clear hfz24_3
        try clear hfz24_4
        try clear hfz27_0
        try clear hfz27_1
        try clear hfz27_2
        try clear hfz27_3
        try clear hfz27_4
        try clear hfz29_0
        try clear hfz29_1
        try clear hfz29_2
        try clear hfz29_3
        try clear hfz29_4
        try clear hfz33_0
        try clear hfz33_1
        try clear hfz33_2
        try clear hfz33_3
        try clear hfz33_4
        try clear hfz35_0
        try clear hfz35_1
        try clear hfz35_2
        try clear hfz35_3
        try clear hfz35_4
        try clear hfz39_0
        try clear hfz39_1
        try clear hfz39_2
        try clear hfz39_3
        try clear hfz39_4
        try clear hfz46_0
        try clear hfz46_1
        try clear hfz46_2
        try clear hfz46_3
        try clear hfz46_4
        try clear hfz47_0
        try clear hfz47_1
        try clear hfz47_2
        try clear hfz47_3
        try clear hfz47_4
        try clear hfz48_0
        try clear hfz48_1
        try clear hfz48_2
        try clear hfz48_3
        try clear hfz48_4
        try clear hfz6_0
        try clear hfz6_1
        try clear hfz6_2
        try clear hfz6_3
        try clear hfz6_4
        try clear hfz9_0
        try clear hfz9_1
        try clear hfz9_2
        try clear hfz9_3
        try clear hfz9_4
        try clear p1
        try clear p16
        try clear p2
        try clear p22
        try clear p3
        try clear p31
        try clear p37
        try clear p43
        try clear q1
        try clear q16
        try clear q2
        try clear q22
        try clear q3
        try clear q31
        try clear q37
        try clear q43
        obtain ⟨x5_3, rfl, HA, HK3, BK157, HB⟩ := hrel
        cases gk with
        | zero => exact absurd HA.out (by simp [depotref20_Legal.l1])
        | succ k3 =>
         have H := HA.out
         clear HA
         simp only [depotref20_Legal.l1] at H
         by_cases c49 : x5_3 < (t153.size : Int)
         ·rw [if_pos c49] at H
          have c49b0 : decide (x5_3 < (t153.size : Int)) = true := decide_eq_true c49
          clear c49
          by_cases c50 : 0 ≤ x5_3
          ·rw [if_pos c50] at H
           have c50b0 : decide (0 ≤ x5_3) = true := decide_eq_true c50
           clear c50
           replace H := Option.bind_eq_some_iff.mp H
           obtain ⟨t163, A520, H⟩ := H
           replace H : (if t163 = true then (depotref20_Legal.l1 k3 (wrap64 (x5_3 + 1)) t152 t153 t154 t155 t156) else ((depotref20_digit.f (bt t153 x5_3)).bind fun t164 => (if t164 = true then (depotref20_Legal.l1 k3 (wrap64 (x5_3 + 1)) t152 t153 t154 t155 t156) else (if (bt t153 x5_3) = 46 then (depotref20_Legal.l1 k3 (wrap64 (x5_3 + 1)) t152 t153 t154 t155 t156) else (if (bt t153 x5_3) = 43 then (depotref20_Legal.l1 k3 (wrap64 (x5_3 + 1)) t152 t153 t154 t155 t156) else (if (bt t153 x5_3) = 45 then (depotref20_Legal.l1 k3 (wrap64 (x5_3 + 1)) t152 t153 t154 t155 t156) else (if (bt t153 x5_3) = 126 then (depotref20_Legal.l1 k3 (wrap64 (x5_3 + 1)) t152 t153 t154 t155 t156) else (if (bt t153 x5_3) = 58 then (if t155 = true then (depotref20_Legal.l1 k3 (wrap64 (x5_3 + 1)) t152 t153 t154 t155 t156) else (some false)) else (some false))))))))) = some r := H
           have A52 := Aside0.mk A520
           clear A520
           by_cases c53 : t163 = true
           ·subst c53
            have H1 : (depotref20_Legal.l1 k3 (wrap64 (x5_3 + 1)) t152 t153 t154 t155 t156) = some r := by rw [if_pos rfl] at H; exact H
            clear H
            have H := H1
            clear H1
            have H' := Aside0.mk H
            clear H
            have hcz54_0 : wr.cell? ⟨gb157, 0, none⟩ = some (.string t152) := (blk_cell BK157.out 0).trans rfl
            have hcz54_1 : wr.cell? ⟨gb157, 1, none⟩ = some (.string t153) := (blk_cell BK157.out 1).trans rfl
            have hcz54_2 : wr.cell? ⟨gb157, 2, none⟩ = some (.string t154) := (blk_cell BK157.out 2).trans rfl
            have hcz54_3 : wr.cell? ⟨gb157, 3, none⟩ = some (.bool t155) := (blk_cell BK157.out 3).trans rfl
            have hcz54_4 : wr.cell? ⟨gb157, 4, none⟩ = some (.bool t156) := (blk_cell BK157.out 4).trans rfl
            have hfz54_0 := blk_frozen BK157.out 0
            have hfz54_1 := blk_frozen BK157.out 1
            have hfz54_2 := blk_frozen BK157.out 2
            have hfz54_3 := blk_frozen BK157.out 3
            have hfz54_4 := blk_frozen BK157.out 4
            have p51 : 0 ≤ (x5_3 : Int) := of_decide_eq_true (by first | (with_reducible assumption) | assumption)
            have q51 : x5_3 < (t153.size : Int) := of_decide_eq_true (by first | (with_reducible assumption) | assumption)
            have hx51 := bt_at t153 x5_3
            replace p51 := eq_true p51
            replace q51 := eq_true q51
            go_wp2_with (first | ((with_reducible refine gate_callee (f := 75) rfl ?_); refine goesL_ (some 64) rfl rfl Tryd.func75 (by kernel_rfl) rfl #[.int .u8 (bt t153 x5_3)] rfl (by (try simp only [List.map_toArray, List.map_cons, List.map_nil]); first | done | rfl | (simp only [List.length_drop, List.length_take]; rfl) | (simp; done)) ?_; (with_reducible refine (depotref20_letter.calls (bt t153 x5_3) true _ A52.out).mono ?_); rintro e w' ⟨rfl, ⟨nd, rfl⟩⟩; refine ⟨_, rfl, ?_⟩))
            go_roundg k3
            case measure => have := HJ2.out; have := HK2.out; have := HK3.out; omega
            case rel => exact ⟨(wrap64 (x5_3 + 1)), (by first | rfl | (simp; done) | (simp [*]; done)), H', ⟨by have := HJ2.out; have := HK2.out; have := HK3.out; omega⟩, ⟨by (with_reducible repeat (first | refine blk_drewN ?_ _ | refine blk_drew ?_ | refine blk_alloc ?_ _)); exact BK157.out⟩, ⟨by repeat (first | (with_reducible first | exact HB.out | apply below_alloc | apply pw_below_drewN | apply below_drew1 | refine below_set ?_ GE157.out) | exact HB.out)⟩⟩
           ·replace c53 := Bool.eq_false_iff.mpr c53
            subst c53
            have H1 : ((depotref20_digit.f (bt t153 x5_3)).bind fun t164 => (if t164 = true then (depotref20_Legal.l1 k3 (wrap64 (x5_3 + 1)) t152 t153 t154 t155 t156) else (if (bt t153 x5_3) = 46 then (depotref20_Legal.l1 k3 (wrap64 (x5_3 + 1)) t152 t153 t154 t155 t156) else (if (bt t153 x5_3) = 43 then (depotref20_Legal.l1 k3 (wrap64 (x5_3 + 1)) t152 t153 t154 t155 t156) else (if (bt t153 x5_3) = 45 then (depotref20_Legal.l1 k3 (wrap64 (x5_3 + 1)) t152 t153 t154 t155 t156) else (if (bt t153 x5_3) = 126 then (depotref20_Legal.l1 k3 (wrap64 (x5_3 + 1)) t152 t153 t154 t155 t156) else (if (bt t153 x5_3) = 58 then (if t155 = true then (depotref20_Legal.l1 k3 (wrap64 (x5_3 + 1)) t152 t153 t154 t155 t156) else (some false)) else (some false)))))))) = some r := by rw [if_neg (show ¬ (false = true) by decide)] at H; exact H
            clear H
            have H := H1
            clear H1
            replace H := Option.bind_eq_some_iff.mp H
            obtain ⟨t164, A550, H⟩ := H
            replace H : (if t164 = true then (depotref20_Legal.l1 k3 (wrap64 (x5_3 + 1)) t152 t153 t154 t155 t156) else (if (bt t153 x5_3) = 46 then (depotref20_Legal.l1 k3 (wrap64 (x5_3 + 1)) t152 t153 t154 t155 t156) else (if (bt t153 x5_3) = 43 then (depotref20_Legal.l1 k3 (wrap64 (x5_3 + 1)) t152 t153 t154 t155 t156) else (if (bt t153 x5_3) = 45 then (depotref20_Legal.l1 k3 (wrap64 (x5_3 + 1)) t152 t153 t154 t155 t156) else (if (bt t153 x5_3) = 126 then (depotref20_Legal.l1 k3 (wrap64 (x5_3 + 1)) t152 t153 t154 t155 t156) else (if (bt t153 x5_3) = 58 then (if t155 = true then (depotref20_Legal.l1 k3 (wrap64 (x5_3 + 1)) t152 t153 t154 t155 t156) else (some false)) else (some false))))))) = some r := H
            have A55 := Aside0.mk A550
            clear A550
            by_cases c56 : t164 = true
            ·subst c56
             have H1 : (depotref20_Legal.l1 k3 (wrap64 (x5_3 + 1)) t152 t153 t154 t155 t156) = some r := by rw [if_pos rfl] at H; exact H
             clear H
             have H := H1
             clear H1
             have H' := Aside0.mk H
             clear H
             have hcz57_0 : wr.cell? ⟨gb157, 0, none⟩ = some (.string t152) := (blk_cell BK157.out 0).trans rfl
             have hcz57_1 : wr.cell? ⟨gb157, 1, none⟩ = some (.string t153) := (blk_cell BK157.out 1).trans rfl
             have hcz57_2 : wr.cell? ⟨gb157, 2, none⟩ = some (.string t154) := (blk_cell BK157.out 2).trans rfl
             have hcz57_3 : wr.cell? ⟨gb157, 3, none⟩ = some (.bool t155) := (blk_cell BK157.out 3).trans rfl
             have hcz57_4 : wr.cell? ⟨gb157, 4, none⟩ = some (.bool t156) := (blk_cell BK157.out 4).trans rfl
             have hfz57_0 := blk_frozen BK157.out 0
             have hfz57_1 := blk_frozen BK157.out 1
             have hfz57_2 := blk_frozen BK157.out 2
             have hfz57_3 := blk_frozen BK157.out 3
             have hfz57_4 := blk_frozen BK157.out 4
             have p51 : 0 ≤ (x5_3 : Int) := of_decide_eq_true (by first | (with_reducible assumption) | assumption)
             have q51 : x5_3 < (t153.size : Int) := of_decide_eq_true (by first | (with_reducible assumption) | assumption)
             have hx51 := bt_at t153 x5_3
             replace p51 := eq_true p51
             replace q51 := eq_true q51
             go_wp2_with (first | ((with_reducible refine gate_callee (f := 75) rfl ?_); refine goesL_ (some 64) rfl rfl Tryd.func75 (by kernel_rfl) rfl #[.int .u8 (bt t153 x5_3)] rfl (by (try simp only [List.map_toArray, List.map_cons, List.map_nil]); first | done | rfl | (simp only [List.length_drop, List.length_take]; rfl) | (simp; done)) ?_; (with_reducible refine (depotref20_letter.calls (bt t153 x5_3) false _ A52.out).mono ?_); rintro e w' ⟨rfl, ⟨nd, rfl⟩⟩; refine ⟨_, rfl, ?_⟩) | (go_at_call 74; (with_reducible refine (depotref20_digit.calls (bt t153 x5_3) true _ A55.out).mono ?_); rintro e w' ⟨rfl, ⟨nd, rfl⟩⟩))
             go_roundg k3
             case measure => have := HJ2.out; have := HK2.out; have := HK3.out; omega
             case rel => exact ⟨(wrap64 (x5_3 + 1)), (by first | rfl | (simp; done) | (simp [*]; done)), H', ⟨by have := HJ2.out; have := HK2.out; have := HK3.out; omega⟩, ⟨by (with_reducible repeat (first | refine blk_drewN ?_ _ | refine blk_drew ?_ | refine blk_alloc ?_ _)); exact BK157.out⟩, ⟨by repeat (first | (with_reducible first | exact HB.out | apply below_alloc | apply pw_below_drewN | apply below_drew1 | refine below_set ?_ GE157.out) | exact HB.out)⟩⟩
            ·replace c56 := Bool.eq_false_iff.mpr c56
             subst c56
             have H1 : (if (bt t153 x5_3) = 46 then (depotref20_Legal.l1 k3 (wrap64 (x5_3 + 1)) t152 t153 t154 t155 t156) else (if (bt t153 x5_3) = 43 then (depotref20_Legal.l1 k3 (wrap64 (x5_3 + 1)) t152 t153 t154 t155 t156) else (if (bt t153 x5_3) = 45 then (depotref20_Legal.l1 k3 (wrap64 (x5_3 + 1)) t152 t153 t154 t155 t156) else (if (bt t153 x5_3) = 126 then (depotref20_Legal.l1 k3 (wrap64 (x5_3 + 1)) t152 t153 t154 t155 t156) else (if (bt t153 x5_3) = 58 then (if t155 = true then (depotref20_Legal.l1 k3 (wrap64 (x5_3 + 1)) t152 t153 t154 t155 t156) else (some false)) else (some false)))))) = some r := by rw [if_neg (show ¬ (false = true) by decide)] at H; exact H
             clear H
             have H := H1
             clear H1
             by_cases c58 : (bt t153 x5_3) = 46
             ·rw [if_pos c58] at H
              have c58b0 : ((bt t153 x5_3) == 46) = true := beq_iff_eq.mpr c58
              have c58b1 : ((bt t153 x5_3) != 46) = false := bne_eq_false_iff_eq.mpr c58
              clear c58
              have H' := Aside0.mk H
              clear H
              have hcz59_0 : wr.cell? ⟨gb157, 0, none⟩ = some (.string t152) := (blk_cell BK157.out 0).trans rfl
              have hcz59_1 : wr.cell? ⟨gb157, 1, none⟩ = some (.string t153) := (blk_cell BK157.out 1).trans rfl
              have hcz59_2 : wr.cell? ⟨gb157, 2, none⟩ = some (.string t154) := (blk_cell BK157.out 2).trans rfl
              have hcz59_3 : wr.cell? ⟨gb157, 3, none⟩ = some (.bool t155) := (blk_cell BK157.out 3).trans rfl
              have hcz59_4 : wr.cell? ⟨gb157, 4, none⟩ = some (.bool t156) := (blk_cell BK157.out 4).trans rfl
              have hfz59_0 := blk_frozen BK157.out 0
              have hfz59_1 := blk_frozen BK157.out 1
              have hfz59_2 := blk_frozen BK157.out 2
              have hfz59_3 := blk_frozen BK157.out 3
              have hfz59_4 := blk_frozen BK157.out 4
              have p51 : 0 ≤ (x5_3 : Int) := of_decide_eq_true (by first | (with_reducible assumption) | assumption)
              have q51 : x5_3 < (t153.size : Int) := of_decide_eq_true (by first | (with_reducible assumption) | assumption)
              have hx51 := bt_at t153 x5_3
              replace p51 := eq_true p51
              replace q51 := eq_true q51
              go_wp2_with (first | ((with_reducible refine gate_callee (f := 75) rfl ?_); refine goesL_ (some 64) rfl rfl Tryd.func75 (by kernel_rfl) rfl #[.int .u8 (bt t153 x5_3)] rfl (by (try simp only [List.map_toArray, List.map_cons, List.map_nil]); first | done | rfl | (simp only [List.length_drop, List.length_take]; rfl) | (simp; done)) ?_; (with_reducible refine (depotref20_letter.calls (bt t153 x5_3) false _ A52.out).mono ?_); rintro e w' ⟨rfl, ⟨nd, rfl⟩⟩; refine ⟨_, rfl, ?_⟩) | (go_at_call 74; (with_reducible refine (depotref20_digit.calls (bt t153 x5_3) false _ A55.out).mono ?_); rintro e w' ⟨rfl, ⟨nd, rfl⟩⟩))
              go_roundg k3
              case measure => have := HJ2.out; have := HK2.out; have := HK3.out; omega
              case rel => exact ⟨(wrap64 (x5_3 + 1)), (by first | rfl | (simp; done) | (simp [*]; done)), H', ⟨by have := HJ2.out; have := HK2.out; have := HK3.out; omega⟩, ⟨by (with_reducible repeat (first | refine blk_drewN ?_ _ | refine blk_drew ?_ | refine blk_alloc ?_ _)); exact BK157.out⟩, ⟨by repeat (first | (with_reducible first | exact HB.out | apply below_alloc | apply pw_below_drewN | apply below_drew1 | refine below_set ?_ GE157.out) | exact HB.out)⟩⟩
             ·rw [if_neg c58] at H
              have c58b0 : ((bt t153 x5_3) == 46) = false := beq_eq_false_iff_ne.mpr c58
              have c58b1 : ((bt t153 x5_3) != 46) = true := bne_iff_ne.mpr c58
              by_cases c60 : (bt t153 x5_3) = 43
              ·rw [if_pos c60] at H
               have c60b0 : ((bt t153 x5_3) == 43) = true := beq_iff_eq.mpr c60
               have c60b1 : ((bt t153 x5_3) != 43) = false := bne_eq_false_iff_eq.mpr c60
               clear c60
               have H' := Aside0.mk H
               clear H
               have hcz61_0 : wr.cell? ⟨gb157, 0, none⟩ = some (.string t152) := (blk_cell BK157.out 0).trans rfl
               have hcz61_1 : wr.cell? ⟨gb157, 1, none⟩ = some (.string t153) := (blk_cell BK157.out 1).trans rfl
               have hcz61_2 : wr.cell? ⟨gb157, 2, none⟩ = some (.string t154) := (blk_cell BK157.out 2).trans rfl
               have hcz61_3 : wr.cell? ⟨gb157, 3, none⟩ = some (.bool t155) := (blk_cell BK157.out 3).trans rfl
               have hcz61_4 : wr.cell? ⟨gb157, 4, none⟩ = some (.bool t156) := (blk_cell BK157.out 4).trans rfl
               have hfz61_0 := blk_frozen BK157.out 0
               have hfz61_1 := blk_frozen BK157.out 1
               have hfz61_2 := blk_frozen BK157.out 2
               have hfz61_3 := blk_frozen BK157.out 3
               have hfz61_4 := blk_frozen BK157.out 4
               have p51 : 0 ≤ (x5_3 : Int) := of_decide_eq_true (by first | (with_reducible assumption) | assumption)
               have q51 : x5_3 < (t153.size : Int) := of_decide_eq_true (by first | (with_reducible assumption) | assumption)
               have hx51 := bt_at t153 x5_3
               replace p51 := eq_true p51
               replace q51 := eq_true q51
               go_wp2_with (first | ((with_reducible refine gate_callee (f := 75) rfl ?_); refine goesL_ (some 64) rfl rfl Tryd.func75 (by kernel_rfl) rfl #[.int .u8 (bt t153 x5_3)] rfl (by (try simp only [List.map_toArray, List.map_cons, List.map_nil]); first | done | rfl | (simp only [List.length_drop, List.length_take]; rfl) | (simp; done)) ?_; (with_reducible refine (depotref20_letter.calls (bt t153 x5_3) false _ A52.out).mono ?_); rintro e w' ⟨rfl, ⟨nd, rfl⟩⟩; refine ⟨_, rfl, ?_⟩) | (go_at_call 74; (with_reducible refine (depotref20_digit.calls (bt t153 x5_3) false _ A55.out).mono ?_); rintro e w' ⟨rfl, ⟨nd, rfl⟩⟩))
               go_roundg k3
               case measure => have := HJ2.out; have := HK2.out; have := HK3.out; omega
               case rel => exact ⟨(wrap64 (x5_3 + 1)), (by first | rfl | (simp; done) | (simp [*]; done)), H', ⟨by have := HJ2.out; have := HK2.out; have := HK3.out; omega⟩, ⟨by (with_reducible repeat (first | refine blk_drewN ?_ _ | refine blk_drew ?_ | refine blk_alloc ?_ _)); exact BK157.out⟩, ⟨by repeat (first | (with_reducible first | exact HB.out | apply below_alloc | apply pw_below_drewN | apply below_drew1 | refine below_set ?_ GE157.out) | exact HB.out)⟩⟩
              ·rw [if_neg c60] at H
               have c60b0 : ((bt t153 x5_3) == 43) = false := beq_eq_false_iff_ne.mpr c60
               have c60b1 : ((bt t153 x5_3) != 43) = true := bne_iff_ne.mpr c60
               by_cases c62 : (bt t153 x5_3) = 45
               ·rw [if_pos c62] at H
                have c62b0 : ((bt t153 x5_3) == 45) = true := beq_iff_eq.mpr c62
                have c62b1 : ((bt t153 x5_3) != 45) = false := bne_eq_false_iff_eq.mpr c62
                clear c62
                have H' := Aside0.mk H
                clear H
                have hcz63_0 : wr.cell? ⟨gb157, 0, none⟩ = some (.string t152) := (blk_cell BK157.out 0).trans rfl
                have hcz63_1 : wr.cell? ⟨gb157, 1, none⟩ = some (.string t153) := (blk_cell BK157.out 1).trans rfl
                have hcz63_2 : wr.cell? ⟨gb157, 2, none⟩ = some (.string t154) := (blk_cell BK157.out 2).trans rfl
                have hcz63_3 : wr.cell? ⟨gb157, 3, none⟩ = some (.bool t155) := (blk_cell BK157.out 3).trans rfl
                have hcz63_4 : wr.cell? ⟨gb157, 4, none⟩ = some (.bool t156) := (blk_cell BK157.out 4).trans rfl
                have hfz63_0 := blk_frozen BK157.out 0
                have hfz63_1 := blk_frozen BK157.out 1
                have hfz63_2 := blk_frozen BK157.out 2
                have hfz63_3 := blk_frozen BK157.out 3
                have hfz63_4 := blk_frozen BK157.out 4
                have p51 : 0 ≤ (x5_3 : Int) := of_decide_eq_true (by first | (with_reducible assumption) | assumption)
                have q51 : x5_3 < (t153.size : Int) := of_decide_eq_true (by first | (with_reducible assumption) | assumption)
                have hx51 := bt_at t153 x5_3
                replace p51 := eq_true p51
                replace q51 := eq_true q51
                go_wp2_with (first | ((with_reducible refine gate_callee (f := 75) rfl ?_); refine goesL_ (some 64) rfl rfl Tryd.func75 (by kernel_rfl) rfl #[.int .u8 (bt t153 x5_3)] rfl (by (try simp only [List.map_toArray, List.map_cons, List.map_nil]); first | done | rfl | (simp only [List.length_drop, List.length_take]; rfl) | (simp; done)) ?_; (with_reducible refine (depotref20_letter.calls (bt t153 x5_3) false _ A52.out).mono ?_); rintro e w' ⟨rfl, ⟨nd, rfl⟩⟩; refine ⟨_, rfl, ?_⟩) | (go_at_call 74; (with_reducible refine (depotref20_digit.calls (bt t153 x5_3) false _ A55.out).mono ?_); rintro e w' ⟨rfl, ⟨nd, rfl⟩⟩))
                go_roundg k3
                case measure => have := HJ2.out; have := HK2.out; have := HK3.out; omega
                case rel => exact ⟨(wrap64 (x5_3 + 1)), (by first | rfl | (simp; done) | (simp [*]; done)), H', ⟨by have := HJ2.out; have := HK2.out; have := HK3.out; omega⟩, ⟨by (with_reducible repeat (first | refine blk_drewN ?_ _ | refine blk_drew ?_ | refine blk_alloc ?_ _)); exact BK157.out⟩, ⟨by repeat (first | (with_reducible first | exact HB.out | apply below_alloc | apply pw_below_drewN | apply below_drew1 | refine below_set ?_ GE157.out) | exact HB.out)⟩⟩
               ·rw [if_neg c62] at H
                have c62b0 : ((bt t153 x5_3) == 45) = false := beq_eq_false_iff_ne.mpr c62
                have c62b1 : ((bt t153 x5_3) != 45) = true := bne_iff_ne.mpr c62
                by_cases c64 : (bt t153 x5_3) = 126
                ·rw [if_pos c64] at H
                 have c64b0 : ((bt t153 x5_3) == 126) = true := beq_iff_eq.mpr c64
                 have c64b1 : ((bt t153 x5_3) != 126) = false := bne_eq_false_iff_eq.mpr c64
                 clear c64
                 have H' := Aside0.mk H
                 clear H
                 have hcz65_0 : wr.cell? ⟨gb157, 0, none⟩ = some (.string t152) := (blk_cell BK157.out 0).trans rfl
                 have hcz65_1 : wr.cell? ⟨gb157, 1, none⟩ = some (.string t153) := (blk_cell BK157.out 1).trans rfl
                 have hcz65_2 : wr.cell? ⟨gb157, 2, none⟩ = some (.string t154) := (blk_cell BK157.out 2).trans rfl
                 have hcz65_3 : wr.cell? ⟨gb157, 3, none⟩ = some (.bool t155) := (blk_cell BK157.out 3).trans rfl
                 have hcz65_4 : wr.cell? ⟨gb157, 4, none⟩ = some (.bool t156) := (blk_cell BK157.out 4).trans rfl
                 have hfz65_0 := blk_frozen BK157.out 0
                 have hfz65_1 := blk_frozen BK157.out 1
                 have hfz65_2 := blk_frozen BK157.out 2
                 have hfz65_3 := blk_frozen BK157.out 3
                 have hfz65_4 := blk_frozen BK157.out 4
                 have p51 : 0 ≤ (x5_3 : Int) := of_decide_eq_true (by first | (with_reducible assumption) | assumption)
                 have q51 : x5_3 < (t153.size : Int) := of_decide_eq_true (by first | (with_reducible assumption) | assumption)
                 have hx51 := bt_at t153 x5_3
                 replace p51 := eq_true p51
                 replace q51 := eq_true q51
                 go_wp2_with (first | ((with_reducible refine gate_callee (f := 75) rfl ?_); refine goesL_ (some 64) rfl rfl Tryd.func75 (by kernel_rfl) rfl #[.int .u8 (bt t153 x5_3)] rfl (by (try simp only [List.map_toArray, List.map_cons, List.map_nil]); first | done | rfl | (simp only [List.length_drop, List.length_take]; rfl) | (simp; done)) ?_; (with_reducible refine (depotref20_letter.calls (bt t153 x5_3) false _ A52.out).mono ?_); rintro e w' ⟨rfl, ⟨nd, rfl⟩⟩; refine ⟨_, rfl, ?_⟩) | (go_at_call 74; (with_reducible refine (depotref20_digit.calls (bt t153 x5_3) false _ A55.out).mono ?_); rintro e w' ⟨rfl, ⟨nd, rfl⟩⟩))
                 go_roundg k3
                 case measure => have := HJ2.out; have := HK2.out; have := HK3.out; omega
                 case rel => exact ⟨(wrap64 (x5_3 + 1)), (by first | rfl | (simp; done) | (simp [*]; done)), H', ⟨by have := HJ2.out; have := HK2.out; have := HK3.out; omega⟩, ⟨by (with_reducible repeat (first | refine blk_drewN ?_ _ | refine blk_drew ?_ | refine blk_alloc ?_ _)); exact BK157.out⟩, ⟨by repeat (first | (with_reducible first | exact HB.out | apply below_alloc | apply pw_below_drewN | apply below_drew1 | refine below_set ?_ GE157.out) | exact HB.out)⟩⟩
                ·rw [if_neg c64] at H
                 have c64b0 : ((bt t153 x5_3) == 126) = false := beq_eq_false_iff_ne.mpr c64
                 have c64b1 : ((bt t153 x5_3) != 126) = true := bne_iff_ne.mpr c64
                 by_cases c66 : (bt t153 x5_3) = 58
                 ·rw [if_pos c66] at H
                  have c66b0 : ((bt t153 x5_3) == 58) = true := beq_iff_eq.mpr c66
                  have c66b1 : ((bt t153 x5_3) != 58) = false := bne_eq_false_iff_eq.mpr c66
                  clear c66
                  by_cases c67 : t155 = true
                  ·subst c67
                   have H1 : (depotref20_Legal.l1 k3 (wrap64 (x5_3 + 1)) t152 t153 t154 true t156) = some r := by rw [if_pos rfl] at H; exact H
                   clear H
                   have H := H1
                   clear H1
                   have H' := Aside0.mk H
                   clear H
                   have hcz68_0 : wr.cell? ⟨gb157, 0, none⟩ = some (.string t152) := (blk_cell BK157.out 0).trans rfl
                   have hcz68_1 : wr.cell? ⟨gb157, 1, none⟩ = some (.string t153) := (blk_cell BK157.out 1).trans rfl
                   have hcz68_2 : wr.cell? ⟨gb157, 2, none⟩ = some (.string t154) := (blk_cell BK157.out 2).trans rfl
                   have hcz68_3 : wr.cell? ⟨gb157, 3, none⟩ = some (.bool true) := (blk_cell BK157.out 3).trans rfl
                   have hcz68_4 : wr.cell? ⟨gb157, 4, none⟩ = some (.bool t156) := (blk_cell BK157.out 4).trans rfl
                   have hfz68_0 := blk_frozen BK157.out 0
                   have hfz68_1 := blk_frozen BK157.out 1
                   have hfz68_2 := blk_frozen BK157.out 2
                   have hfz68_3 := blk_frozen BK157.out 3
                   have hfz68_4 := blk_frozen BK157.out 4
                   have p51 : 0 ≤ (x5_3 : Int) := of_decide_eq_true (by first | (with_reducible assumption) | assumption)
                   have q51 : x5_3 < (t153.size : Int) := of_decide_eq_true (by first | (with_reducible assumption) | assumption)
                   have hx51 := bt_at t153 x5_3
                   replace p51 := eq_true p51
                   replace q51 := eq_true q51
                   go_wp2_with (first | ((with_reducible refine gate_callee (f := 75) rfl ?_); refine goesL_ (some 64) rfl rfl Tryd.func75 (by kernel_rfl) rfl #[.int .u8 (bt t153 x5_3)] rfl (by (try simp only [List.map_toArray, List.map_cons, List.map_nil]); first | done | rfl | (simp only [List.length_drop, List.length_take]; rfl) | (simp; done)) ?_; (with_reducible refine (depotref20_letter.calls (bt t153 x5_3) false _ A52.out).mono ?_); rintro e w' ⟨rfl, ⟨nd, rfl⟩⟩; refine ⟨_, rfl, ?_⟩) | (go_at_call 74; (with_reducible refine (depotref20_digit.calls (bt t153 x5_3) false _ A55.out).mono ?_); rintro e w' ⟨rfl, ⟨nd, rfl⟩⟩))
                   go_roundg k3
                   case measure => have := HJ2.out; have := HK2.out; have := HK3.out; omega
                   case rel => exact ⟨(wrap64 (x5_3 + 1)), (by first | rfl | (simp; done) | (simp [*]; done)), H', ⟨by have := HJ2.out; have := HK2.out; have := HK3.out; omega⟩, ⟨by (with_reducible repeat (first | refine blk_drewN ?_ _ | refine blk_drew ?_ | refine blk_alloc ?_ _)); exact BK157.out⟩, ⟨by repeat (first | (with_reducible first | exact HB.out | apply below_alloc | apply pw_below_drewN | apply below_drew1 | refine below_set ?_ GE157.out) | exact HB.out)⟩⟩
                  ·replace c67 := Bool.eq_false_iff.mpr c67
                   subst c67
                   have H1 : (some false) = some r := by rw [if_neg (show ¬ (false = true) by decide)] at H; exact H
                   clear H
                   have H := H1
                   clear H1
                   obtain rfl := Option.some.inj H
                   have hcz69_0 : wr.cell? ⟨gb157, 0, none⟩ = some (.string t152) := (blk_cell BK157.out 0).trans rfl
                   have hcz69_1 : wr.cell? ⟨gb157, 1, none⟩ = some (.string t153) := (blk_cell BK157.out 1).trans rfl
                   have hcz69_2 : wr.cell? ⟨gb157, 2, none⟩ = some (.string t154) := (blk_cell BK157.out 2).trans rfl
                   have hcz69_3 : wr.cell? ⟨gb157, 3, none⟩ = some (.bool false) := (blk_cell BK157.out 3).trans rfl
                   have hcz69_4 : wr.cell? ⟨gb157, 4, none⟩ = some (.bool t156) := (blk_cell BK157.out 4).trans rfl
                   have hfz69_0 := blk_frozen BK157.out 0
                   have hfz69_1 := blk_frozen BK157.out 1
                   have hfz69_2 := blk_frozen BK157.out 2
                   have hfz69_3 := blk_frozen BK157.out 3
                   have hfz69_4 := blk_frozen BK157.out 4
                   have p51 : 0 ≤ (x5_3 : Int) := of_decide_eq_true (by first | (with_reducible assumption) | assumption)
                   have q51 : x5_3 < (t153.size : Int) := of_decide_eq_true (by first | (with_reducible assumption) | assumption)
                   have hx51 := bt_at t153 x5_3
                   replace p51 := eq_true p51
                   replace q51 := eq_true q51
                   go_wp2_with (first | ((with_reducible refine gate_callee (f := 75) rfl ?_); refine goesL_ (some 64) rfl rfl Tryd.func75 (by kernel_rfl) rfl #[.int .u8 (bt t153 x5_3)] rfl (by (try simp only [List.map_toArray, List.map_cons, List.map_nil]); first | done | rfl | (simp only [List.length_drop, List.length_take]; rfl) | (simp; done)) ?_; (with_reducible refine (depotref20_letter.calls (bt t153 x5_3) false _ A52.out).mono ?_); rintro e w' ⟨rfl, ⟨nd, rfl⟩⟩; refine ⟨_, rfl, ?_⟩) | (go_at_call 74; (with_reducible refine (depotref20_digit.calls (bt t153 x5_3) false _ A55.out).mono ?_); rintro e w' ⟨rfl, ⟨nd, rfl⟩⟩))
                   go_ret
                   exact ⟨by first | rfl | (simp [errW_none, errW_some] <;> rfl) | (simp [*, errW_none, errW_some] <;> rfl) | (simp [errW_none, errW_some, Go.Proofs.YtmocooihkobdjaaDoor.listNe]; done), by repeat (first | (with_reducible first | exact HB.out | apply below_alloc | apply pw_below_drewN | apply below_drew1 | refine below_set ?_ GE157.out) | exact HB.out)⟩
                 ·rw [if_neg c66] at H
                  have c66b0 : ((bt t153 x5_3) == 58) = false := beq_eq_false_iff_ne.mpr c66
                  have c66b1 : ((bt t153 x5_3) != 58) = true := bne_iff_ne.mpr c66
                  obtain rfl := Option.some.inj H
                  have hcz70_0 : wr.cell? ⟨gb157, 0, none⟩ = some (.string t152) := (blk_cell BK157.out 0).trans rfl
                  have hcz70_1 : wr.cell? ⟨gb157, 1, none⟩ = some (.string t153) := (blk_cell BK157.out 1).trans rfl
                  have hcz70_2 : wr.cell? ⟨gb157, 2, none⟩ = some (.string t154) := (blk_cell BK157.out 2).trans rfl
                  have hcz70_3 : wr.cell? ⟨gb157, 3, none⟩ = some (.bool t155) := (blk_cell BK157.out 3).trans rfl
                  have hcz70_4 : wr.cell? ⟨gb157, 4, none⟩ = some (.bool t156) := (blk_cell BK157.out 4).trans rfl
                  have hfz70_0 := blk_frozen BK157.out 0
                  have hfz70_1 := blk_frozen BK157.out 1
                  have hfz70_2 := blk_frozen BK157.out 2
                  have hfz70_3 := blk_frozen BK157.out 3
                  have hfz70_4 := blk_frozen BK157.out 4
                  have p51 : 0 ≤ (x5_3 : Int) := of_decide_eq_true (by first | (with_reducible assumption) | assumption)
                  have q51 : x5_3 < (t153.size : Int) := of_decide_eq_true (by first | (with_reducible assumption) | assumption)
                  have hx51 := bt_at t153 x5_3
                  replace p51 := eq_true p51
                  replace q51 := eq_true q51
                  go_wp2_with (first | ((with_reducible refine gate_callee (f := 75) rfl ?_); refine goesL_ (some 64) rfl rfl Tryd.func75 (by kernel_rfl) rfl #[.int .u8 (bt t153 x5_3)] rfl (by (try simp only [List.map_toArray, List.map_cons, List.map_nil]); first | done | rfl | (simp only [List.length_drop, List.length_take]; rfl) | (simp; done)) ?_; (with_reducible refine (depotref20_letter.calls (bt t153 x5_3) false _ A52.out).mono ?_); rintro e w' ⟨rfl, ⟨nd, rfl⟩⟩; refine ⟨_, rfl, ?_⟩) | (go_at_call 74; (with_reducible refine (depotref20_digit.calls (bt t153 x5_3) false _ A55.out).mono ?_); rintro e w' ⟨rfl, ⟨nd, rfl⟩⟩))
                  go_ret
                  exact ⟨by first | rfl | (simp [errW_none, errW_some] <;> rfl) | (simp [*, errW_none, errW_some] <;> rfl) | (simp [errW_none, errW_some, Go.Proofs.YtmocooihkobdjaaDoor.listNe]; done), by repeat (first | (with_reducible first | exact HB.out | apply below_alloc | apply pw_below_drewN | apply below_drew1 | refine below_set ?_ GE157.out) | exact HB.out)⟩
          ·rw [if_neg c50] at H
           exact absurd H (by simp)
         ·rw [if_neg c49] at H
          have c49b0 : decide (x5_3 < (t153.size : Int)) = false := decide_eq_false c49
          clear c49
          have H' := Aside0.mk H
          clear H
          have hcz71_0 : wr.cell? ⟨gb157, 0, none⟩ = some (.string t152) := (blk_cell BK157.out 0).trans rfl
          have hcz71_1 : wr.cell? ⟨gb157, 1, none⟩ = some (.string t153) := (blk_cell BK157.out 1).trans rfl
          have hcz71_2 : wr.cell? ⟨gb157, 2, none⟩ = some (.string t154) := (blk_cell BK157.out 2).trans rfl
          have hcz71_3 : wr.cell? ⟨gb157, 3, none⟩ = some (.bool t155) := (blk_cell BK157.out 3).trans rfl
          have hcz71_4 : wr.cell? ⟨gb157, 4, none⟩ = some (.bool t156) := (blk_cell BK157.out 4).trans rfl
          have hfz71_0 := blk_frozen BK157.out 0
          have hfz71_1 := blk_frozen BK157.out 1
          have hfz71_2 := blk_frozen BK157.out 2
          have hfz71_3 := blk_frozen BK157.out 3
          have hfz71_4 := blk_frozen BK157.out 4
          go_wp2
          go_loopg [7] k3 (fun kq v7 w' => ∃ (x7_4 : Int), v7 = .int .i64 x7_4 ∧ Aside0 (depotref20_Legal.l2 kq x7_4 t152 t153 t154 t155 t156 = some r) ∧ Aside0 (kq ≤ k3) ∧ Aside0 (w'.heap[gb157]? = some (.cells #[.string t152, .string t153, .string t154, .bool t155, .bool t156] 112 (0, 0))) ∧ Aside0 (Below w.heap.size w w'))
          case atStart => exact ⟨(0), (by first | rfl | (simp; done) | (simp [*]; done)), H', ⟨Nat.le_refl _⟩, ⟨by (with_reducible repeat (first | refine blk_drewN ?_ _ | refine blk_drew ?_ | refine blk_alloc ?_ _)); exact BK157.out⟩, ⟨by repeat (first | (with_reducible first | exact HB.out | apply below_alloc | apply pw_below_drewN | apply below_drew1 | refine below_set ?_ GE157.out) | exact HB.out)⟩⟩
          case round =>
           clear H'
           try clear c1
           try clear p1
           try clear q1
           try clear hx1
           try clear qi1
           try clear c2
           try clear p2
           try clear q2
           try clear hx2
           try clear qi2
           try clear c3
           try clear p3
           try clear q3
           try clear hx3
           try clear qi3
           try clear c4
           try clear p4
           try clear q4
           try clear hx4
           try clear c5
           try clear p5
           try clear q5
           try clear hx5
           try clear c6
           try clear p6
           try clear c7
           try clear c8
           try clear c8b0
           try clear c8b1
           try clear c10
           try clear c11
           try clear c11b0
           try clear c11b1
           try clear c13
           try clear c13b0
           try clear c13b1
           try clear c15
           try clear c15b0
           try clear c15b1
           try clear p16
           try clear q16
           try clear hx16
           try clear qi16
           try clear c19
           try clear c19b0
           try clear c19b1
           try clear c21
           try clear c21b0
           try clear c21b1
           try clear p22
           try clear q22
           try clear hx22
           try clear qi22
           try clear c25
           try clear c26
           try clear c26b0
           try clear c26b1
           try clear c28
           try clear c28b0
           try clear c28b1
           try clear c30
           try clear c30b0
           try clear c30b1
           try clear p31
           try clear q31
           try clear hx31
           try clear qi31
           try clear c34
           try clear c34b0
           try clear c34b1
           try clear c36
           try clear c36b0
           try clear c36b1
           try clear p37
           try clear q37
           try clear hx37
           try clear qi37
           try clear c40
           try clear c41
           try clear c41b0
           try clear c42
           try clear c42b0
           try clear p43
           try clear q43
           try clear hx43
           try clear c45
           try clear c49
           try clear c49b0
           try clear c50
           try clear c50b0
           try clear p51
           try clear q51
           try clear hx51
           try clear c53
           try clear c56
           try clear c58
           try clear c58b0
           try clear c58b1
           try clear c60
           try clear c60b0
           try clear c60b1
           try clear c62
           try clear c62b0
           try clear c62b1
           try clear c64
           try clear c64b0
           try clear c64b1
           try clear p64
           try clear c66
           try clear c66b0
           try clear c66b1
           try clear c67
           try clear hcz12_0
           try clear hcz12_1
           try clear hcz12_2
           try clear hcz12_3
           try clear hcz12_4
           try clear hcz14_0
           try clear hcz14_1
           try clear hcz14_2
           try clear hcz14_3
           try clear hcz14_4
           try clear hcz18_0
           try clear hcz18_1
           try clear hcz18_2
           try clear hcz18_3
           try clear hcz18_4
           try clear hcz20_0
           try clear hcz20_1
           try clear hcz20_2
           try clear hcz20_3
           try clear hcz20_4
           try clear hcz24_0
           try clear hcz24_1
           try clear hcz24_2
           try clear hcz24_3
           try clear hcz24_4
           try clear hcz27_0
           try clear hcz27_1
           try clear hcz27_2
           try clear hcz27_3
           try clear hcz27_4
           try clear hcz29_0
           try clear hcz29_1
           try clear hcz29_2
           try clear hcz29_3
           try clear hcz29_4
           try clear hcz33_0
           try clear hcz33_1
           try clear hcz33_2
           try clear hcz33_3
           try clear hcz33_4
           try clear hcz35_0
           try clear hcz35_1
           try clear hcz35_2
           try clear hcz35_3
           try clear hcz35_4
           try clear hcz39_0
           try clear hcz39_1
           try clear hcz39_2
           try clear hcz39_3
           try clear hcz39_4
           try clear hcz46_0
           try clear hcz46_1
           try clear hcz46_2
           try clear hcz46_3
           try clear hcz46_4
           try clear hcz47_0
           try clear hcz47_1
           try clear hcz47_2
           try clear hcz47_3
           try clear hcz47_4
           try clear hcz48_0
           try clear hcz48_1
           try clear hcz48_2
           try clear hcz48_3
           try clear hcz48_4
           try clear hcz54_0
           try clear hcz54_1
           try clear hcz54_2
           try clear hcz54_3
           try clear hcz54_4
           try clear hcz57_0
           try clear hcz57_1
           try clear hcz57_2
           try clear hcz57_3
           try clear hcz57_4
           try clear hcz59_0
           try clear hcz59_1
           try clear hcz59_2
           try clear hcz59_3
           try clear hcz59_4
           try clear hcz61_0
           try clear hcz61_1
           try clear hcz61_2
           try clear hcz61_3
           try clear hcz61_4
           try clear hcz63_0
           try clear hcz63_1
           try clear hcz63_2
           try clear hcz63_3
           try clear hcz63_4
           try clear hcz65_0
           try clear hcz65_1
           try clear hcz65_2
           try clear hcz65_3
           try clear hcz65_4
           try clear hcz68_0
           try clear hcz68_1
           try clear hcz68_2
           try clear hcz68_3
           try clear hcz68_4
           try clear hcz69_0
           try clear hcz69_1
           try clear hcz69_2
           try clear hcz69_3
           try clear hcz69_4
           try clear hcz6_0
           try clear hcz6_1
           try clear hcz6_2
           try clear hcz6_3
           try clear hcz6_4
           try clear hcz70_0
           try clear hcz70_1
           try clear hcz70_2
           try clear hcz70_3
           try clear hcz70_4
           try clear hcz71_0
           try clear hcz71_1
           try clear hcz71_2
           try clear hcz71_3
           try clear hcz71_4
           try clear hcz9_0
           try clear hcz9_1
           try clear hcz9_2
           try clear hcz9_3
           try clear hcz9_4
           try clear hfz12_0
           try clear hfz12_1
           try clear hfz12_2
           try clear hfz12_3
           try clear hfz12_4
           try clear hfz14_0
           try clear hfz14_1
           try clear hfz14_2
           try clear hfz14_3
           try clear hfz14_4
           try clear hfz18_0
           try clear hfz18_1
           try clear hfz18_2
           try clear hfz18_3
           try clear hfz18_4
           try clear hfz20_0
           try clear hfz20_1
           try clear hfz20_2
           try clear hfz20_3
           try clear hfz20_4
           try clear hfz24_0
           try clear hfz24_1
           try clear hfz24_2
           try clear hfz24_3
           try clear hfz24_4
           try clear hfz27_0
           try clear hfz27_1
           try clear hfz27_2
           try clear hfz27_3
           try clear hfz27_4
           try clear hfz29_0
           try clear hfz29_1
           try clear hfz29_2
           try clear hfz29_3
           try clear hfz29_4
           try clear hfz33_0
           try clear hfz33_1
           try clear hfz33_2
           try clear hfz33_3
           try clear hfz33_4
           try clear hfz35_0
           try clear hfz35_1
           try clear hfz35_2
           try clear hfz35_3
           try clear hfz35_4
           try clear hfz39_0
           try clear hfz39_1
           try clear hfz39_2
           try clear hfz39_3
           try clear hfz39_4
           try clear hfz46_0
           try clear hfz46_1
           try clear hfz46_2
           try clear hfz46_3
           try clear hfz46_4
           try clear hfz47_0
           try clear hfz47_1
           try clear hfz47_2
           try clear hfz47_3
           try clear hfz47_4
           try clear hfz48_0
           try clear hfz48_1
           try clear hfz48_2
           try clear hfz48_3
           try clear hfz48_4
           try clear hfz54_0
           try clear hfz54_1
           try clear hfz54_2
           try clear hfz54_3
           try clear hfz54_4
           try clear hfz57_0
           try clear hfz57_1
           try clear hfz57_2
           try clear hfz57_3
           try clear hfz57_4
           try clear hfz59_0
           try clear hfz59_1
           try clear hfz59_2
           try clear hfz59_3
           try clear hfz59_4
           try clear hfz61_0
           try clear hfz61_1
           try clear hfz61_2
           try clear hfz61_3
           try clear hfz61_4
           try clear hfz63_0
           try clear hfz63_1
           try clear hfz63_2
           try clear hfz63_3
           try clear hfz63_4
           try clear hfz65_0
           try clear hfz65_1
           try clear hfz65_2
           try clear hfz65_3
           try clear hfz65_4
           try clear hfz68_0
           try clear hfz68_1
           try clear hfz68_2
           try clear hfz68_3
           try clear hfz68_4
           try clear hfz69_0
           try clear hfz69_1
           try clear hfz69_2
           try clear hfz69_3
           try clear hfz69_4
           try clear hfz6_0
           try clear hfz6_1
           try clear hfz6_2
           try clear hfz6_3
           try clear hfz6_4
           try clear hfz70_0
           try clear hfz70_1
           try clear hfz70_2
           try clear hfz70_3
           try clear hfz70_4
           try clear hfz71_0
           try clear hfz71_1
           try clear hfz71_2
           try clear hfz71_3
           try clear hfz71_4
           try clear hfz9_0
           try clear hfz9_1
           try clear hfz9_2
           try clear hfz9_3
           try clear hfz9_4
           try clear p1
           try clear p16
           try clear p2
           try clear p22
           try clear p3
           try clear p31
           try clear p37
           try clear p4
           try clear p43
           try clear p51
           try clear p6
           try clear q1
           try clear q16
           try clear q2
           try clear q22
           try clear q3
           try clear q31
           try clear q37
           try clear q4
           try clear q43
           try clear q51
           obtain ⟨x7_4, rfl, HA, HK4, BK157, HB⟩ := hrel
           cases gk with
           | zero => exact absurd HA.out (by simp [depotref20_Legal.l2])
           | succ k4 =>
            have H := HA.out
            clear HA
            simp only [depotref20_Legal.l2] at H
            by_cases c72 : x7_4 < (t154.size : Int)
            ·rw [if_pos c72] at H
             have c72b0 : decide (x7_4 < (t154.size : Int)) = true := decide_eq_true c72
             clear c72
             by_cases c73 : 0 ≤ x7_4
             ·rw [if_pos c73] at H
              have c73b0 : decide (0 ≤ x7_4) = true := decide_eq_true c73
              clear c73
              replace H := Option.bind_eq_some_iff.mp H
              obtain ⟨t165, A750, H⟩ := H
              replace H : (if t165 = true then (depotref20_Legal.l2 k4 (wrap64 (x7_4 + 1)) t152 t153 t154 t155 t156) else ((depotref20_digit.f (bt t154 x7_4)).bind fun t166 => (if t166 = true then (depotref20_Legal.l2 k4 (wrap64 (x7_4 + 1)) t152 t153 t154 t155 t156) else (if (bt t154 x7_4) = 46 then (depotref20_Legal.l2 k4 (wrap64 (x7_4 + 1)) t152 t153 t154 t155 t156) else (if (bt t154 x7_4) = 43 then (depotref20_Legal.l2 k4 (wrap64 (x7_4 + 1)) t152 t153 t154 t155 t156) else (if (bt t154 x7_4) = 126 then (depotref20_Legal.l2 k4 (wrap64 (x7_4 + 1)) t152 t153 t154 t155 t156) else (some false))))))) = some r := H
              have A75 := Aside0.mk A750
              clear A750
              by_cases c76 : t165 = true
              ·subst c76
               have H1 : (depotref20_Legal.l2 k4 (wrap64 (x7_4 + 1)) t152 t153 t154 t155 t156) = some r := by rw [if_pos rfl] at H; exact H
               clear H
               have H := H1
               clear H1
               have H' := Aside0.mk H
               clear H
               have hcz77_0 : wr.cell? ⟨gb157, 0, none⟩ = some (.string t152) := (blk_cell BK157.out 0).trans rfl
               have hcz77_1 : wr.cell? ⟨gb157, 1, none⟩ = some (.string t153) := (blk_cell BK157.out 1).trans rfl
               have hcz77_2 : wr.cell? ⟨gb157, 2, none⟩ = some (.string t154) := (blk_cell BK157.out 2).trans rfl
               have hcz77_3 : wr.cell? ⟨gb157, 3, none⟩ = some (.bool t155) := (blk_cell BK157.out 3).trans rfl
               have hcz77_4 : wr.cell? ⟨gb157, 4, none⟩ = some (.bool t156) := (blk_cell BK157.out 4).trans rfl
               have hfz77_0 := blk_frozen BK157.out 0
               have hfz77_1 := blk_frozen BK157.out 1
               have hfz77_2 := blk_frozen BK157.out 2
               have hfz77_3 := blk_frozen BK157.out 3
               have hfz77_4 := blk_frozen BK157.out 4
               have p74 : 0 ≤ (x7_4 : Int) := of_decide_eq_true (by first | (with_reducible assumption) | assumption)
               have q74 : x7_4 < (t154.size : Int) := of_decide_eq_true (by first | (with_reducible assumption) | assumption)
               have hx74 := bt_at t154 x7_4
               replace p74 := eq_true p74
               replace q74 := eq_true q74
               go_wp2_with (first | ((with_reducible refine gate_callee (f := 75) rfl ?_); refine goesL_ (some 108) rfl rfl Tryd.func75 (by kernel_rfl) rfl #[.int .u8 (bt t154 x7_4)] rfl (by (try simp only [List.map_toArray, List.map_cons, List.map_nil]); first | done | rfl | (simp only [List.length_drop, List.length_take]; rfl) | (simp; done)) ?_; (with_reducible refine (depotref20_letter.calls (bt t154 x7_4) true _ A75.out).mono ?_); rintro e w' ⟨rfl, ⟨nd, rfl⟩⟩; refine ⟨_, rfl, ?_⟩))
               go_roundg k4
               case measure => have := HJ2.out; have := HK2.out; have := HK3.out; have := HK4.out; omega
               case rel => exact ⟨(wrap64 (x7_4 + 1)), (by first | rfl | (simp; done) | (simp [*]; done)), H', ⟨by have := HJ2.out; have := HK2.out; have := HK3.out; have := HK4.out; omega⟩, ⟨by (with_reducible repeat (first | refine blk_drewN ?_ _ | refine blk_drew ?_ | refine blk_alloc ?_ _)); exact BK157.out⟩, ⟨by repeat (first | (with_reducible first | exact HB.out | apply below_alloc | apply pw_below_drewN | apply below_drew1 | refine below_set ?_ GE157.out) | exact HB.out)⟩⟩
              ·replace c76 := Bool.eq_false_iff.mpr c76
               subst c76
               have H1 : ((depotref20_digit.f (bt t154 x7_4)).bind fun t166 => (if t166 = true then (depotref20_Legal.l2 k4 (wrap64 (x7_4 + 1)) t152 t153 t154 t155 t156) else (if (bt t154 x7_4) = 46 then (depotref20_Legal.l2 k4 (wrap64 (x7_4 + 1)) t152 t153 t154 t155 t156) else (if (bt t154 x7_4) = 43 then (depotref20_Legal.l2 k4 (wrap64 (x7_4 + 1)) t152 t153 t154 t155 t156) else (if (bt t154 x7_4) = 126 then (depotref20_Legal.l2 k4 (wrap64 (x7_4 + 1)) t152 t153 t154 t155 t156) else (some false)))))) = some r := by rw [if_neg (show ¬ (false = true) by decide)] at H; exact H
               clear H
               have H := H1
               clear H1
               replace H := Option.bind_eq_some_iff.mp H
               obtain ⟨t166, A780, H⟩ := H
               replace H : (if t166 = true then (depotref20_Legal.l2 k4 (wrap64 (x7_4 + 1)) t152 t153 t154 t155 t156) else (if (bt t154 x7_4) = 46 then (depotref20_Legal.l2 k4 (wrap64 (x7_4 + 1)) t152 t153 t154 t155 t156) else (if (bt t154 x7_4) = 43 then (depotref20_Legal.l2 k4 (wrap64 (x7_4 + 1)) t152 t153 t154 t155 t156) else (if (bt t154 x7_4) = 126 then (depotref20_Legal.l2 k4 (wrap64 (x7_4 + 1)) t152 t153 t154 t155 t156) else (some false))))) = some r := H
               have A78 := Aside0.mk A780
               clear A780
               by_cases c79 : t166 = true
               ·subst c79
                have H1 : (depotref20_Legal.l2 k4 (wrap64 (x7_4 + 1)) t152 t153 t154 t155 t156) = some r := by rw [if_pos rfl] at H; exact H
                clear H
                have H := H1
                clear H1
                have H' := Aside0.mk H
                clear H
                have hcz80_0 : wr.cell? ⟨gb157, 0, none⟩ = some (.string t152) := (blk_cell BK157.out 0).trans rfl
                have hcz80_1 : wr.cell? ⟨gb157, 1, none⟩ = some (.string t153) := (blk_cell BK157.out 1).trans rfl
                have hcz80_2 : wr.cell? ⟨gb157, 2, none⟩ = some (.string t154) := (blk_cell BK157.out 2).trans rfl
                have hcz80_3 : wr.cell? ⟨gb157, 3, none⟩ = some (.bool t155) := (blk_cell BK157.out 3).trans rfl
                have hcz80_4 : wr.cell? ⟨gb157, 4, none⟩ = some (.bool t156) := (blk_cell BK157.out 4).trans rfl
                have hfz80_0 := blk_frozen BK157.out 0
                have hfz80_1 := blk_frozen BK157.out 1
                have hfz80_2 := blk_frozen BK157.out 2
                have hfz80_3 := blk_frozen BK157.out 3
                have hfz80_4 := blk_frozen BK157.out 4
                have p74 : 0 ≤ (x7_4 : Int) := of_decide_eq_true (by first | (with_reducible assumption) | assumption)
                have q74 : x7_4 < (t154.size : Int) := of_decide_eq_true (by first | (with_reducible assumption) | assumption)
                have hx74 := bt_at t154 x7_4
                replace p74 := eq_true p74
                replace q74 := eq_true q74
                go_wp2_with (first | ((with_reducible refine gate_callee (f := 75) rfl ?_); refine goesL_ (some 108) rfl rfl Tryd.func75 (by kernel_rfl) rfl #[.int .u8 (bt t154 x7_4)] rfl (by (try simp only [List.map_toArray, List.map_cons, List.map_nil]); first | done | rfl | (simp only [List.length_drop, List.length_take]; rfl) | (simp; done)) ?_; (with_reducible refine (depotref20_letter.calls (bt t154 x7_4) false _ A75.out).mono ?_); rintro e w' ⟨rfl, ⟨nd, rfl⟩⟩; refine ⟨_, rfl, ?_⟩) | (go_at_call 74; (with_reducible refine (depotref20_digit.calls (bt t154 x7_4) true _ A78.out).mono ?_); rintro e w' ⟨rfl, ⟨nd, rfl⟩⟩))
                go_roundg k4
                case measure => have := HJ2.out; have := HK2.out; have := HK3.out; have := HK4.out; omega
                case rel => exact ⟨(wrap64 (x7_4 + 1)), (by first | rfl | (simp; done) | (simp [*]; done)), H', ⟨by have := HJ2.out; have := HK2.out; have := HK3.out; have := HK4.out; omega⟩, ⟨by (with_reducible repeat (first | refine blk_drewN ?_ _ | refine blk_drew ?_ | refine blk_alloc ?_ _)); exact BK157.out⟩, ⟨by repeat (first | (with_reducible first | exact HB.out | apply below_alloc | apply pw_below_drewN | apply below_drew1 | refine below_set ?_ GE157.out) | exact HB.out)⟩⟩
               ·replace c79 := Bool.eq_false_iff.mpr c79
                subst c79
                have H1 : (if (bt t154 x7_4) = 46 then (depotref20_Legal.l2 k4 (wrap64 (x7_4 + 1)) t152 t153 t154 t155 t156) else (if (bt t154 x7_4) = 43 then (depotref20_Legal.l2 k4 (wrap64 (x7_4 + 1)) t152 t153 t154 t155 t156) else (if (bt t154 x7_4) = 126 then (depotref20_Legal.l2 k4 (wrap64 (x7_4 + 1)) t152 t153 t154 t155 t156) else (some false)))) = some r := by rw [if_neg (show ¬ (false = true) by decide)] at H; exact H
                clear H
                have H := H1
                clear H1
                by_cases c81 : (bt t154 x7_4) = 46
                ·rw [if_pos c81] at H
                 have c81b0 : ((bt t154 x7_4) == 46) = true := beq_iff_eq.mpr c81
                 have c81b1 : ((bt t154 x7_4) != 46) = false := bne_eq_false_iff_eq.mpr c81
                 clear c81
                 have H' := Aside0.mk H
                 clear H
                 have hcz82_0 : wr.cell? ⟨gb157, 0, none⟩ = some (.string t152) := (blk_cell BK157.out 0).trans rfl
                 have hcz82_1 : wr.cell? ⟨gb157, 1, none⟩ = some (.string t153) := (blk_cell BK157.out 1).trans rfl
                 have hcz82_2 : wr.cell? ⟨gb157, 2, none⟩ = some (.string t154) := (blk_cell BK157.out 2).trans rfl
                 have hcz82_3 : wr.cell? ⟨gb157, 3, none⟩ = some (.bool t155) := (blk_cell BK157.out 3).trans rfl
                 have hcz82_4 : wr.cell? ⟨gb157, 4, none⟩ = some (.bool t156) := (blk_cell BK157.out 4).trans rfl
                 have hfz82_0 := blk_frozen BK157.out 0
                 have hfz82_1 := blk_frozen BK157.out 1
                 have hfz82_2 := blk_frozen BK157.out 2
                 have hfz82_3 := blk_frozen BK157.out 3
                 have hfz82_4 := blk_frozen BK157.out 4
                 have p74 : 0 ≤ (x7_4 : Int) := of_decide_eq_true (by first | (with_reducible assumption) | assumption)
                 have q74 : x7_4 < (t154.size : Int) := of_decide_eq_true (by first | (with_reducible assumption) | assumption)
                 have hx74 := bt_at t154 x7_4
                 replace p74 := eq_true p74
                 replace q74 := eq_true q74
                 go_wp2_with (first | ((with_reducible refine gate_callee (f := 75) rfl ?_); refine goesL_ (some 108) rfl rfl Tryd.func75 (by kernel_rfl) rfl #[.int .u8 (bt t154 x7_4)] rfl (by (try simp only [List.map_toArray, List.map_cons, List.map_nil]); first | done | rfl | (simp only [List.length_drop, List.length_take]; rfl) | (simp; done)) ?_; (with_reducible refine (depotref20_letter.calls (bt t154 x7_4) false _ A75.out).mono ?_); rintro e w' ⟨rfl, ⟨nd, rfl⟩⟩; refine ⟨_, rfl, ?_⟩) | (go_at_call 74; (with_reducible refine (depotref20_digit.calls (bt t154 x7_4) false _ A78.out).mono ?_); rintro e w' ⟨rfl, ⟨nd, rfl⟩⟩))
                 go_roundg k4
                 case measure => have := HJ2.out; have := HK2.out; have := HK3.out; have := HK4.out; omega
                 case rel => exact ⟨(wrap64 (x7_4 + 1)), (by first | rfl | (simp; done) | (simp [*]; done)), H', ⟨by have := HJ2.out; have := HK2.out; have := HK3.out; have := HK4.out; omega⟩, ⟨by (with_reducible repeat (first | refine blk_drewN ?_ _ | refine blk_drew ?_ | refine blk_alloc ?_ _)); exact BK157.out⟩, ⟨by repeat (first | (with_reducible first | exact HB.out | apply below_alloc | apply pw_below_drewN | apply below_drew1 | refine below_set ?_ GE157.out) | exact HB.out)⟩⟩
                ·rw [if_neg c81] at H
                 have c81b0 : ((bt t154 x7_4) == 46) = false := beq_eq_false_iff_ne.mpr c81
                 have c81b1 : ((bt t154 x7_4) != 46) = true := bne_iff_ne.mpr c81
                 by_cases c83 : (bt t154 x7_4) = 43
                 ·rw [if_pos c83] at H
                  have c83b0 : ((bt t154 x7_4) == 43) = true := beq_iff_eq.mpr c83
                  have c83b1 : ((bt t154 x7_4) != 43) = false := bne_eq_false_iff_eq.mpr c83
                  clear c83
                  have H' := Aside0.mk H
                  clear H
                  have hcz84_0 : wr.cell? ⟨gb157, 0, none⟩ = some (.string t152) := (blk_cell BK157.out 0).trans rfl
                  have hcz84_1 : wr.cell? ⟨gb157, 1, none⟩ = some (.string t153) := (blk_cell BK157.out 1).trans rfl
                  have hcz84_2 : wr.cell? ⟨gb157, 2, none⟩ = some (.string t154) := (blk_cell BK157.out 2).trans rfl
                  have hcz84_3 : wr.cell? ⟨gb157, 3, none⟩ = some (.bool t155) := (blk_cell BK157.out 3).trans rfl
                  have hcz84_4 : wr.cell? ⟨gb157, 4, none⟩ = some (.bool t156) := (blk_cell BK157.out 4).trans rfl
                  have hfz84_0 := blk_frozen BK157.out 0
                  have hfz84_1 := blk_frozen BK157.out 1
                  have hfz84_2 := blk_frozen BK157.out 2
                  have hfz84_3 := blk_frozen BK157.out 3
                  have hfz84_4 := blk_frozen BK157.out 4
                  have p74 : 0 ≤ (x7_4 : Int) := of_decide_eq_true (by first | (with_reducible assumption) | assumption)
                  have q74 : x7_4 < (t154.size : Int) := of_decide_eq_true (by first | (with_reducible assumption) | assumption)
                  have hx74 := bt_at t154 x7_4
                  replace p74 := eq_true p74
                  replace q74 := eq_true q74
                  go_wp2_with (first | ((with_reducible refine gate_callee (f := 75) rfl ?_); refine goesL_ (some 108) rfl rfl Tryd.func75 (by kernel_rfl) rfl #[.int .u8 (bt t154 x7_4)] rfl (by (try simp only [List.map_toArray, List.map_cons, List.map_nil]); first | done | rfl | (simp only [List.length_drop, List.length_take]; rfl) | (simp; done)) ?_; (with_reducible refine (depotref20_letter.calls (bt t154 x7_4) false _ A75.out).mono ?_); rintro e w' ⟨rfl, ⟨nd, rfl⟩⟩; refine ⟨_, rfl, ?_⟩) | (go_at_call 74; (with_reducible refine (depotref20_digit.calls (bt t154 x7_4) false _ A78.out).mono ?_); rintro e w' ⟨rfl, ⟨nd, rfl⟩⟩))
                  go_roundg k4
                  case measure => have := HJ2.out; have := HK2.out; have := HK3.out; have := HK4.out; omega
                  case rel => exact ⟨(wrap64 (x7_4 + 1)), (by first | rfl | (simp; done) | (simp [*]; done)), H', ⟨by have := HJ2.out; have := HK2.out; have := HK3.out; have := HK4.out; omega⟩, ⟨by (with_reducible repeat (first | refine blk_drewN ?_ _ | refine blk_drew ?_ | refine blk_alloc ?_ _)); exact BK157.out⟩, ⟨by repeat (first | (with_reducible first | exact HB.out | apply below_alloc | apply pw_below_drewN | apply below_drew1 | refine below_set ?_ GE157.out) | exact HB.out)⟩⟩
                 ·rw [if_neg c83] at H
                  have c83b0 : ((bt t154 x7_4) == 43) = false := beq_eq_false_iff_ne.mpr c83
                  have c83b1 : ((bt t154 x7_4) != 43) = true := bne_iff_ne.mpr c83
                  by_cases c85 : (bt t154 x7_4) = 126
                  ·rw [if_pos c85] at H
                   have c85b0 : ((bt t154 x7_4) == 126) = true := beq_iff_eq.mpr c85
                   have c85b1 : ((bt t154 x7_4) != 126) = false := bne_eq_false_iff_eq.mpr c85
                   clear c85
                   have H' := Aside0.mk H
                   clear H
                   have hcz86_0 : wr.cell? ⟨gb157, 0, none⟩ = some (.string t152) := (blk_cell BK157.out 0).trans rfl
                   have hcz86_1 : wr.cell? ⟨gb157, 1, none⟩ = some (.string t153) := (blk_cell BK157.out 1).trans rfl
                   have hcz86_2 : wr.cell? ⟨gb157, 2, none⟩ = some (.string t154) := (blk_cell BK157.out 2).trans rfl
                   have hcz86_3 : wr.cell? ⟨gb157, 3, none⟩ = some (.bool t155) := (blk_cell BK157.out 3).trans rfl
                   have hcz86_4 : wr.cell? ⟨gb157, 4, none⟩ = some (.bool t156) := (blk_cell BK157.out 4).trans rfl
                   have hfz86_0 := blk_frozen BK157.out 0
                   have hfz86_1 := blk_frozen BK157.out 1
                   have hfz86_2 := blk_frozen BK157.out 2
                   have hfz86_3 := blk_frozen BK157.out 3
                   have hfz86_4 := blk_frozen BK157.out 4
                   have p74 : 0 ≤ (x7_4 : Int) := of_decide_eq_true (by first | (with_reducible assumption) | assumption)
                   have q74 : x7_4 < (t154.size : Int) := of_decide_eq_true (by first | (with_reducible assumption) | assumption)
                   have hx74 := bt_at t154 x7_4
                   replace p74 := eq_true p74
                   replace q74 := eq_true q74
                   go_wp2_with (first | ((with_reducible refine gate_callee (f := 75) rfl ?_); refine goesL_ (some 108) rfl rfl Tryd.func75 (by kernel_rfl) rfl #[.int .u8 (bt t154 x7_4)] rfl (by (try simp only [List.map_toArray, List.map_cons, List.map_nil]); first | done | rfl | (simp only [List.length_drop, List.length_take]; rfl) | (simp; done)) ?_; (with_reducible refine (depotref20_letter.calls (bt t154 x7_4) false _ A75.out).mono ?_); rintro e w' ⟨rfl, ⟨nd, rfl⟩⟩; refine ⟨_, rfl, ?_⟩) | (go_at_call 74; (with_reducible refine (depotref20_digit.calls (bt t154 x7_4) false _ A78.out).mono ?_); rintro e w' ⟨rfl, ⟨nd, rfl⟩⟩))
                   go_roundg k4
                   case measure => have := HJ2.out; have := HK2.out; have := HK3.out; have := HK4.out; omega
                   case rel => exact ⟨(wrap64 (x7_4 + 1)), (by first | rfl | (simp; done) | (simp [*]; done)), H', ⟨by have := HJ2.out; have := HK2.out; have := HK3.out; have := HK4.out; omega⟩, ⟨by (with_reducible repeat (first | refine blk_drewN ?_ _ | refine blk_drew ?_ | refine blk_alloc ?_ _)); exact BK157.out⟩, ⟨by repeat (first | (with_reducible first | exact HB.out | apply below_alloc | apply pw_below_drewN | apply below_drew1 | refine below_set ?_ GE157.out) | exact HB.out)⟩⟩
                  ·rw [if_neg c85] at H
                   have c85b0 : ((bt t154 x7_4) == 126) = false := beq_eq_false_iff_ne.mpr c85
                   have c85b1 : ((bt t154 x7_4) != 126) = true := bne_iff_ne.mpr c85
                   obtain rfl := Option.some.inj H
                   have hcz87_0 : wr.cell? ⟨gb157, 0, none⟩ = some (.string t152) := (blk_cell BK157.out 0).trans rfl
                   have hcz87_1 : wr.cell? ⟨gb157, 1, none⟩ = some (.string t153) := (blk_cell BK157.out 1).trans rfl
                   have hcz87_2 : wr.cell? ⟨gb157, 2, none⟩ = some (.string t154) := (blk_cell BK157.out 2).trans rfl
                   have hcz87_3 : wr.cell? ⟨gb157, 3, none⟩ = some (.bool t155) := (blk_cell BK157.out 3).trans rfl
                   have hcz87_4 : wr.cell? ⟨gb157, 4, none⟩ = some (.bool t156) := (blk_cell BK157.out 4).trans rfl
                   have hfz87_0 := blk_frozen BK157.out 0
                   have hfz87_1 := blk_frozen BK157.out 1
                   have hfz87_2 := blk_frozen BK157.out 2
                   have hfz87_3 := blk_frozen BK157.out 3
                   have hfz87_4 := blk_frozen BK157.out 4
                   have p74 : 0 ≤ (x7_4 : Int) := of_decide_eq_true (by first | (with_reducible assumption) | assumption)
                   have q74 : x7_4 < (t154.size : Int) := of_decide_eq_true (by first | (with_reducible assumption) | assumption)
                   have hx74 := bt_at t154 x7_4
                   replace p74 := eq_true p74
                   replace q74 := eq_true q74
                   go_wp2_with (first | ((with_reducible refine gate_callee (f := 75) rfl ?_); refine goesL_ (some 108) rfl rfl Tryd.func75 (by kernel_rfl) rfl #[.int .u8 (bt t154 x7_4)] rfl (by (try simp only [List.map_toArray, List.map_cons, List.map_nil]); first | done | rfl | (simp only [List.length_drop, List.length_take]; rfl) | (simp; done)) ?_; (with_reducible refine (depotref20_letter.calls (bt t154 x7_4) false _ A75.out).mono ?_); rintro e w' ⟨rfl, ⟨nd, rfl⟩⟩; refine ⟨_, rfl, ?_⟩) | (go_at_call 74; (with_reducible refine (depotref20_digit.calls (bt t154 x7_4) false _ A78.out).mono ?_); rintro e w' ⟨rfl, ⟨nd, rfl⟩⟩))
                   go_ret
                   exact ⟨by first | rfl | (simp [errW_none, errW_some] <;> rfl) | (simp [*, errW_none, errW_some] <;> rfl) | (simp [errW_none, errW_some, Go.Proofs.YtmocooihkobdjaaDoor.listNe]; done), by repeat (first | (with_reducible first | exact HB.out | apply below_alloc | apply pw_below_drewN | apply below_drew1 | refine below_set ?_ GE157.out) | exact HB.out)⟩
             ·rw [if_neg c73] at H
              exact absurd H (by simp)
            ·rw [if_neg c72] at H
             have c72b0 : decide (x7_4 < (t154.size : Int)) = false := decide_eq_false c72
             clear c72
             obtain rfl := Option.some.inj H
             have hcz88_0 : wr.cell? ⟨gb157, 0, none⟩ = some (.string t152) := (blk_cell BK157.out 0).trans rfl
             have hcz88_1 : wr.cell? ⟨gb157, 1, none⟩ = some (.string t153) := (blk_cell BK157.out 1).trans rfl
             have hcz88_2 : wr.cell? ⟨gb157, 2, none⟩ = some (.string t154) := (blk_cell BK157.out 2).trans rfl
             have hcz88_3 : wr.cell? ⟨gb157, 3, none⟩ = some (.bool t155) := (blk_cell BK157.out 3).trans rfl
             have hcz88_4 : wr.cell? ⟨gb157, 4, none⟩ = some (.bool t156) := (blk_cell BK157.out 4).trans rfl
             have hfz88_0 := blk_frozen BK157.out 0
             have hfz88_1 := blk_frozen BK157.out 1
             have hfz88_2 := blk_frozen BK157.out 2
             have hfz88_3 := blk_frozen BK157.out 3
             have hfz88_4 := blk_frozen BK157.out 4
             go_wp2
             go_ret
             exact ⟨by first | rfl | (simp [errW_none, errW_some] <;> rfl) | (simp [*, errW_none, errW_some] <;> rfl) | (simp [errW_none, errW_some, Go.Proofs.YtmocooihkobdjaaDoor.listNe]; done), by repeat (first | (with_reducible first | exact HB.out | apply below_alloc | apply pw_below_drewN | apply below_drew1 | refine below_set ?_ GE157.out) | exact HB.out)⟩
end Go.Proofs.YtmocooihkobdjaaDoor.E
end
