/- A part of the proof: the texts of this claim, packed by a program of this session (wip/pack.py). -/
import Derived.Test.YtmocooihkobdjaaDoorGk1
import Derived.Test.YtmocooihkobdjaaDoorGk2
section
namespace Go.Proofs.YtmocooihkobdjaaDoor.G
open Go.RowKit Go.Proofs.YtmocooihkobdjaaDoorW.PrintWords Go.Proofs.YtmocooihkobdjaaDoorW.PrintLast Go.Proofs.YtmocooihkobdjaaDoorW.PrintMore
attribute [local go_sem] max2_int min2_int max_two min_two max_three min_three max_four min_four
set_option linter.unusedVariables false
set_option linter.unusedSimpArgs false
mutual
def relation_read.l0 : Nat → ByteArray → Bool → List (List (S46)) → Bool → ByteArray → Int → Option ((List (List (S46))) × Int × Int)
 | 0, _, _, _, _, _, _ => none
 | k + 1, x0, x1, x8, x9, x196000, x196001 => if x9 = true then (relation_read.l1 k x0 x1 x8 ([] : List (S46)) true x196000 x196001) else (if x196001 < (x0.size : Int) then (some (([] : List (List (S46))), 220, x196001)) else (some (x8, 0, 0)))
def relation_read.l1 : Nat → ByteArray → Bool → List (List (S46)) → List (S46) → Bool → ByteArray → Int → Option ((List (List (S46))) × Int × Int)
 | 0, _, _, _, _, _, _, _ => none
 | k + 1, x0, x1, x8, x10, x11, x196000, x196001 => if x11 = true then ((relation_reader_relation.f k x196000 x196001).bind fun bt204 => (if bt204.2.2.2.1 = 0 then (if x10.length < 3518437208883 then ((some (x10 ++ [(⟨bt204.1, bt204.2.1, bt204.2.2.1⟩ : S46)] : List (S46))).bind fun y211 => (if x1 = true then ((relation_reader_takes.f k bt204.2.2.2.2.1 bt204.2.2.2.2.2 124).bind fun bt214 => (relation_read.l1 k x0 x1 x8 y211 bt214.1 bt214.2.1 bt214.2.2)) else (relation_read.l1 k x0 x1 x8 y211 false bt204.2.2.2.2.1 bt204.2.2.2.2.2))) else (none)) else (some (([] : List (List (S46))), bt204.2.2.2.1, bt204.2.2.2.2.2)))) else (if x8.length < 5864062014805 then ((relation_reader_takes.f k x196000 x196001 44).bind fun bt201 => (relation_read.l0 k x0 x1 (x8 ++ [x10]) bt201.1 bt201.2.1 bt201.2.2)) else (none))
end
def relation_read.f (k : Nat) (a0 : ByteArray) (a1 : Bool) : Option ((List (List (S46))) × Int × Int) := (relation_reader_gaps.f k a0 0).bind fun bt196 => (if bt196.2 = (a0.size : Int) then (some (([] : List (List (S46))), 0, 0)) else (relation_read.l0 k a0 a1 ([] : List (List (S46))) true bt196.1 bt196.2))
theorem relation_read.mono_l : ∀ k, (∀ y0 y1 y2 y3 y4 y5, LeO (relation_read.l0 k y0 y1 y2 y3 y4 y5) (relation_read.l0 (k + 1) y0 y1 y2 y3 y4 y5)) ∧ (∀ y0 y1 y2 y3 y4 y5 y6, LeO (relation_read.l1 k y0 y1 y2 y3 y4 y5 y6) (relation_read.l1 (k + 1) y0 y1 y2 y3 y4 y5 y6))
 | 0 => ⟨fun _ _ _ _ _ _ r h => by simp [relation_read.l0] at h, fun _ _ _ _ _ _ _ r h => by simp [relation_read.l1] at h⟩
 | k + 1 => by
  obtain ⟨ih0, ih1⟩ := relation_read.mono_l k
  refine ⟨?_, ?_⟩
  ·intro y0 y1 y2 y3 y4 y5
   unfold relation_read.l0
   repeat' first
   | (with_reducible exact ih0 _ _ _ _ _ _)
   | (with_reducible exact ih1 _ _ _ _ _ _ _)
   | (with_reducible exact relation_reader_gaps.mono _ _ _)
   | (with_reducible exact relation_reader_relation.mono _ _ _)
   | (with_reducible exact relation_reader_takes.mono _ _ _ _)
   | (with_reducible exact LeO.refl _)
   | (with_reducible exact LeO.none _)
   | (with_reducible refine LeO.ite ?_ ?_)
   | (with_reducible refine LeO.bind ?_ (fun _ => ?_))
   | exact ih0 _ _ _ _ _ _
   | exact ih1 _ _ _ _ _ _ _
   | exact relation_reader_gaps.mono _ _ _
   | exact relation_reader_relation.mono _ _ _
   | exact relation_reader_takes.mono _ _ _ _
   | exact LeO.none _
   | refine LeO.ite ?_ ?_
   | refine LeO.bind ?_ (fun _ => ?_)
  ·intro y0 y1 y2 y3 y4 y5 y6
   unfold relation_read.l1
   repeat' first
   | (with_reducible exact ih0 _ _ _ _ _ _)
   | (with_reducible exact ih1 _ _ _ _ _ _ _)
   | (with_reducible exact relation_reader_gaps.mono _ _ _)
   | (with_reducible exact relation_reader_relation.mono _ _ _)
   | (with_reducible exact relation_reader_takes.mono _ _ _ _)
   | (with_reducible exact LeO.refl _)
   | (with_reducible exact LeO.none _)
   | (with_reducible refine LeO.ite ?_ ?_)
   | (with_reducible refine LeO.bind ?_ (fun _ => ?_))
   | exact ih0 _ _ _ _ _ _
   | exact ih1 _ _ _ _ _ _ _
   | exact relation_reader_gaps.mono _ _ _
   | exact relation_reader_relation.mono _ _ _
   | exact relation_reader_takes.mono _ _ _ _
   | exact LeO.none _
   | refine LeO.ite ?_ ?_
   | refine LeO.bind ?_ (fun _ => ?_)
theorem relation_read.mono : ∀ a0 a1 k, LeO (relation_read.f k a0 a1) (relation_read.f (k + 1) a0 a1) := by
 intro a0 a1 k
 obtain ⟨ih0, ih1⟩ := relation_read.mono_l k
 unfold relation_read.f
 repeat' first
   | (with_reducible exact ih0 _ _ _ _ _ _)
   | (with_reducible exact ih1 _ _ _ _ _ _ _)
   | (with_reducible exact relation_reader_gaps.mono _ _ _)
   | (with_reducible exact relation_reader_relation.mono _ _ _)
   | (with_reducible exact relation_reader_takes.mono _ _ _ _)
   | (with_reducible exact LeO.refl _)
   | (with_reducible exact LeO.none _)
   | (with_reducible refine LeO.ite ?_ ?_)
   | (with_reducible refine LeO.bind ?_ (fun _ => ?_))
   | exact ih0 _ _ _ _ _ _
   | exact ih1 _ _ _ _ _ _ _
   | exact relation_reader_gaps.mono _ _ _
   | exact relation_reader_relation.mono _ _ _
   | exact relation_reader_takes.mono _ _ _ _
   | exact LeO.none _
   | refine LeO.ite ?_ ?_
   | refine LeO.bind ?_ (fun _ => ?_)
set_option maxHeartbeats 8000000 in
set_option maxRecDepth 100000 in
theorem relation_read.calls (k : Nat) (a0 : ByteArray) (a1 : Bool) (r1 : List (List (S46))) (r2 : Int) (r3 : Int) (w : World) (hG : GG w) (h : relation_read.f k a0 a1 = some (r1, r2, r3)) :
  Calls Tryd.prog 88 #[.string a0, .bool a1] w fun e w' => ∃ v0_ : Value, e = .returned (.tuple #[v0_, .int .i64 r2, .int .i64 r3]) ∧ Kd.S (Kd.slice 46 k46) 23 w' w.heap.size (fun _ => True) v0_ r1 ∧ Below w.heap.size w w' := by
 have hu135 := Tryd.underlying135
 have hu46 := Tryd.underlying46
 have HB := Aside0.mk (Below.refl w.heap.size w)
 have HG := Aside0.mk hG
 clear hG
 have H : ((relation_reader_gaps.f k a0 0).bind fun bt196 => (if bt196.2 = (a0.size : Int) then (some (([] : List (List (S46))), 0, 0)) else (relation_read.l0 k a0 a1 ([] : List (List (S46))) true bt196.1 bt196.2))) = some (r1, r2, r3) := h
 clear h
 replace H := Option.bind_eq_some_iff.mp H
 obtain ⟨⟨t196, t197⟩, A30, H⟩ := H
 replace H : (if t197 = (a0.size : Int) then (some (([] : List (List (S46))), 0, 0)) else (relation_read.l0 k a0 a1 ([] : List (List (S46))) true t196 t197)) = some (r1, r2, r3) := H
 have A3 := Aside0.mk A30
 clear A30
 by_cases c4 : t197 = (a0.size : Int)
 ·rw [if_pos c4] at H
  have c4b0 : (t197 == (a0.size : Int)) = true := beq_iff_eq.mpr c4
  have c4b1 : (t197 != (a0.size : Int)) = false := bne_eq_false_iff_eq.mpr c4
  clear c4
  simp only [Option.some.injEq, Prod.mk.injEq] at H
  obtain ⟨rfl, rfl, rfl⟩ := H
  go_enter Tryd.func88, Tryd.ntmps88
  go_wp2_with (first | ((with_reducible refine gate_dst (N := 16) rfl ?_); refine box_event ?hg (N := 16) ?hd (cs := #[.string a0, .int .i64 0]) (t := 135) ?hr ?_; (case hd => rfl); (case hg => rfl); (case hr => first | (go_simp; done) | (go_simp; rfl)); intro gb195 hg w5 hbox hb; have n0_ := Aside0.mk (below_step (W0 HB.out) hb); have n1_ := Aside0.mk ((⟨hbox, (by rw [hg]; exact (below_size (W0 HB.out)))⟩ : IsS135 w w5 gb195 a0 0)); clear HB; have HB := n0_; have HI195 := n1_; clear n0_ n1_; clear hb hbox hg) | (go_at_call 107; (with_reducible refine (relation_reader_gaps.calls k gb195 a0 0 t196 t197 w _ ?side1 ?side2 A3.out).mono ?_); (case side1 => repeat (first | (with_reducible first | exact HI195.out | apply IsS135.alloc | apply IsS135.drewN | apply IsS135.drew | apply IsS135.set_0 | apply IsS135.set_1) | exact HI195.out)); (case side2 => repeat (first | (with_reducible first | exact HB.out | apply below_alloc | apply pw_below_drewN | apply below_drew1 | refine below_set ?_ (IsS135.ge HI195.out)) | exact HB.out)); rintro e w6 ⟨rfl, hi, hb, hk⟩; have n0_ := Aside0.mk (hb); have n1_ := Aside0.mk (hi); clear HB; clear HI195; have HB := n0_; have HI195 := n1_; clear n0_ n1_; (try clear hb); (try clear hb2); (try clear hk); (try clear hi); obtain ⟨HGz7, hgz7⟩ := HI195.out; have hcz7_0 := cellS135_0 HGz7; have hcz7_1 := cellS135_1 HGz7; have hfz7_0 := blk_frozen HGz7 0; have hfz7_1 := blk_frozen HGz7 1; clear HGz7 hgz7))
  repeat (go_quiet (first | ((with_reducible refine gate_dst (N := 16) rfl ?_); refine box_event ?hg (N := 16) ?hd (cs := #[.string a0, .int .i64 0]) (t := 135) ?hr ?_; (case hd => rfl); (case hg => rfl); (case hr => first | (go_simp; done) | (go_simp; rfl)); intro gb195 hg w5 hbox hb; have n0_ := Aside0.mk (below_step (W0 HB.out) hb); have n1_ := Aside0.mk ((⟨hbox, (by rw [hg]; exact (below_size (W0 HB.out)))⟩ : IsS135 w w5 gb195 a0 0)); clear HB; have HB := n0_; have HI195 := n1_; clear n0_ n1_; clear hb hbox hg) | (go_at_call 107; (with_reducible refine (relation_reader_gaps.calls k gb195 a0 0 t196 t197 w _ ?side1 ?side2 A3.out).mono ?_); (case side1 => repeat (first | (with_reducible first | exact HI195.out | apply IsS135.alloc | apply IsS135.drewN | apply IsS135.drew | apply IsS135.set_0 | apply IsS135.set_1) | exact HI195.out)); (case side2 => repeat (first | (with_reducible first | exact HB.out | apply below_alloc | apply pw_below_drewN | apply below_drew1 | refine below_set ?_ (IsS135.ge HI195.out)) | exact HB.out)); rintro e w6 ⟨rfl, hi, hb, hk⟩; have n0_ := Aside0.mk (hb); have n1_ := Aside0.mk (hi); clear HB; clear HI195; have HB := n0_; have HI195 := n1_; clear n0_ n1_; (try clear hb); (try clear hb2); (try clear hk); (try clear hi); obtain ⟨HGz7, hgz7⟩ := HI195.out; have hcz7_0 := cellS135_0 HGz7; have hcz7_1 := cellS135_1 HGz7; have hfz7_0 := blk_frozen HGz7 0; have hfz7_1 := blk_frozen HGz7 1; clear HGz7 hgz7)); try go_wp2_with (first | ((with_reducible refine gate_dst (N := 16) rfl ?_); refine box_event ?hg (N := 16) ?hd (cs := #[.string a0, .int .i64 0]) (t := 135) ?hr ?_; (case hd => rfl); (case hg => rfl); (case hr => first | (go_simp; done) | (go_simp; rfl)); intro gb195 hg w5 hbox hb; have n0_ := Aside0.mk (below_step (W0 HB.out) hb); have n1_ := Aside0.mk ((⟨hbox, (by rw [hg]; exact (below_size (W0 HB.out)))⟩ : IsS135 w w5 gb195 a0 0)); clear HB; have HB := n0_; have HI195 := n1_; clear n0_ n1_; clear hb hbox hg) | (go_at_call 107; (with_reducible refine (relation_reader_gaps.calls k gb195 a0 0 t196 t197 w _ ?side1 ?side2 A3.out).mono ?_); (case side1 => repeat (first | (with_reducible first | exact HI195.out | apply IsS135.alloc | apply IsS135.drewN | apply IsS135.drew | apply IsS135.set_0 | apply IsS135.set_1) | exact HI195.out)); (case side2 => repeat (first | (with_reducible first | exact HB.out | apply below_alloc | apply pw_below_drewN | apply below_drew1 | refine below_set ?_ (IsS135.ge HI195.out)) | exact HB.out)); rintro e w6 ⟨rfl, hi, hb, hk⟩; have n0_ := Aside0.mk (hb); have n1_ := Aside0.mk (hi); clear HB; clear HI195; have HB := n0_; have HI195 := n1_; clear n0_ n1_; (try clear hb); (try clear hb2); (try clear hk); (try clear hi); obtain ⟨HGz7, hgz7⟩ := HI195.out; have hcz7_0 := cellS135_0 HGz7; have hcz7_1 := cellS135_1 HGz7; have hfz7_0 := blk_frozen HGz7 0; have hfz7_1 := blk_frozen HGz7 1; clear HGz7 hgz7)))
  go_ret3
  exact ⟨_, by first | rfl | (simp [errW_none, errW_some] <;> rfl) | (simp [*, errW_none, errW_some] <;> rfl) | (simp [errW_none, errW_some, Go.Proofs.YtmocooihkobdjaaDoor.listNe]; done), by first | exact Kd.S_nil _ _ _ _ _ | exact Kd.N_nil _ _ _ _ _ | exact Kd.V_nil _ _ _ _ _ | exact Kd.Q_nil _ _ _ _ _ | exact Kd.R_nil _ _ _ _ _, by repeat (first | (with_reducible first | exact HB.out | apply below_alloc | apply pw_below_drewN | apply below_drew1 | refine below_set ?_ (IsS135.ge HI195.out)) | exact HB.out)⟩
 ·rw [if_neg c4] at H
  have c4b0 : (t197 == (a0.size : Int)) = false := beq_eq_false_iff_ne.mpr c4
  have c4b1 : (t197 != (a0.size : Int)) = true := bne_iff_ne.mpr c4
  have H' := Aside0.mk H
  clear H
  go_enter Tryd.func88, Tryd.ntmps88
  go_wp2_with (first | ((with_reducible refine gate_dst (N := 16) rfl ?_); refine box_event ?hg (N := 16) ?hd (cs := #[.string a0, .int .i64 0]) (t := 135) ?hr ?_; (case hd => rfl); (case hg => rfl); (case hr => first | (go_simp; done) | (go_simp; rfl)); intro gb195 hg w8 hbox hb; have n0_ := Aside0.mk (below_step (W0 HB.out) hb); have n1_ := Aside0.mk ((⟨hbox, (by rw [hg]; exact (below_size (W0 HB.out)))⟩ : IsS135 w w8 gb195 a0 0)); clear HB; have HB := n0_; have HI195 := n1_; clear n0_ n1_; clear hb hbox hg) | (go_at_call 107; (with_reducible refine (relation_reader_gaps.calls k gb195 a0 0 t196 t197 w _ ?side1 ?side2 A3.out).mono ?_); (case side1 => repeat (first | (with_reducible first | exact HI195.out | apply IsS135.alloc | apply IsS135.drewN | apply IsS135.drew | apply IsS135.set_0 | apply IsS135.set_1) | exact HI195.out)); (case side2 => repeat (first | (with_reducible first | exact HB.out | apply below_alloc | apply pw_below_drewN | apply below_drew1 | refine below_set ?_ (IsS135.ge HI195.out)) | exact HB.out)); rintro e w9 ⟨rfl, hi, hb, hk⟩; have n0_ := Aside0.mk (hb); have n1_ := Aside0.mk (hi); clear HB; clear HI195; have HB := n0_; have HI195 := n1_; clear n0_ n1_; (try clear hb); (try clear hb2); (try clear hk); (try clear hi); obtain ⟨HGz10, hgz10⟩ := HI195.out; have hcz10_0 := cellS135_0 HGz10; have hcz10_1 := cellS135_1 HGz10; have hfz10_0 := blk_frozen HGz10 0; have hfz10_1 := blk_frozen HGz10 1; clear HGz10 hgz10))
  repeat (go_quiet (first | ((with_reducible refine gate_dst (N := 16) rfl ?_); refine box_event ?hg (N := 16) ?hd (cs := #[.string a0, .int .i64 0]) (t := 135) ?hr ?_; (case hd => rfl); (case hg => rfl); (case hr => first | (go_simp; done) | (go_simp; rfl)); intro gb195 hg w8 hbox hb; have n0_ := Aside0.mk (below_step (W0 HB.out) hb); have n1_ := Aside0.mk ((⟨hbox, (by rw [hg]; exact (below_size (W0 HB.out)))⟩ : IsS135 w w8 gb195 a0 0)); clear HB; have HB := n0_; have HI195 := n1_; clear n0_ n1_; clear hb hbox hg) | (go_at_call 107; (with_reducible refine (relation_reader_gaps.calls k gb195 a0 0 t196 t197 w _ ?side1 ?side2 A3.out).mono ?_); (case side1 => repeat (first | (with_reducible first | exact HI195.out | apply IsS135.alloc | apply IsS135.drewN | apply IsS135.drew | apply IsS135.set_0 | apply IsS135.set_1) | exact HI195.out)); (case side2 => repeat (first | (with_reducible first | exact HB.out | apply below_alloc | apply pw_below_drewN | apply below_drew1 | refine below_set ?_ (IsS135.ge HI195.out)) | exact HB.out)); rintro e w9 ⟨rfl, hi, hb, hk⟩; have n0_ := Aside0.mk (hb); have n1_ := Aside0.mk (hi); clear HB; clear HI195; have HB := n0_; have HI195 := n1_; clear n0_ n1_; (try clear hb); (try clear hb2); (try clear hk); (try clear hi); obtain ⟨HGz10, hgz10⟩ := HI195.out; have hcz10_0 := cellS135_0 HGz10; have hcz10_1 := cellS135_1 HGz10; have hfz10_0 := blk_frozen HGz10 0; have hfz10_1 := blk_frozen HGz10 1; clear HGz10 hgz10)); try go_wp2_with (first | ((with_reducible refine gate_dst (N := 16) rfl ?_); refine box_event ?hg (N := 16) ?hd (cs := #[.string a0, .int .i64 0]) (t := 135) ?hr ?_; (case hd => rfl); (case hg => rfl); (case hr => first | (go_simp; done) | (go_simp; rfl)); intro gb195 hg w8 hbox hb; have n0_ := Aside0.mk (below_step (W0 HB.out) hb); have n1_ := Aside0.mk ((⟨hbox, (by rw [hg]; exact (below_size (W0 HB.out)))⟩ : IsS135 w w8 gb195 a0 0)); clear HB; have HB := n0_; have HI195 := n1_; clear n0_ n1_; clear hb hbox hg) | (go_at_call 107; (with_reducible refine (relation_reader_gaps.calls k gb195 a0 0 t196 t197 w _ ?side1 ?side2 A3.out).mono ?_); (case side1 => repeat (first | (with_reducible first | exact HI195.out | apply IsS135.alloc | apply IsS135.drewN | apply IsS135.drew | apply IsS135.set_0 | apply IsS135.set_1) | exact HI195.out)); (case side2 => repeat (first | (with_reducible first | exact HB.out | apply below_alloc | apply pw_below_drewN | apply below_drew1 | refine below_set ?_ (IsS135.ge HI195.out)) | exact HB.out)); rintro e w9 ⟨rfl, hi, hb, hk⟩; have n0_ := Aside0.mk (hb); have n1_ := Aside0.mk (hi); clear HB; clear HI195; have HB := n0_; have HI195 := n1_; clear n0_ n1_; (try clear hb); (try clear hb2); (try clear hk); (try clear hi); obtain ⟨HGz10, hgz10⟩ := HI195.out; have hcz10_0 := cellS135_0 HGz10; have hcz10_1 := cellS135_1 HGz10; have hfz10_0 := blk_frozen HGz10 0; have hfz10_1 := blk_frozen HGz10 1; clear HGz10 hgz10)))
  go_loopg [8, 9] k (fun kq v8 v9 w' => ∃ (x8_1 : List (List (S46))) (x9_1 : Bool) (x196000_1 : ByteArray) (x196001_1 : Int), v9 = .bool x9_1 ∧ Aside0 (relation_read.l0 kq a0 a1 x8_1 x9_1 x196000_1 x196001_1 = some (r1, r2, r3)) ∧ Aside0 (kq ≤ k) ∧ Aside0 (Kd.S (Kd.slice 46 k46) 23 w' w.heap.size (fun _ => True) v8 x8_1) ∧ Aside0 (IsS135 w w' gb195 x196000_1 x196001_1) ∧ Aside0 (Below w.heap.size w w'))
  case atStart => exact ⟨(([] : List (List (S46)))), (true), (t196), (t197), (by first | rfl | (simp; done) | (simp [*]; done)), H', ⟨Nat.le_refl _⟩, ⟨by first | exact Kd.S_nil _ _ _ _ _ | exact Kd.N_nil _ _ _ _ _ | exact Kd.V_nil _ _ _ _ _ | exact Kd.Q_nil _ _ _ _ _ | exact Kd.R_nil _ _ _ _ _⟩, ⟨by repeat (first | (with_reducible first | exact HI195.out | apply IsS135.alloc | apply IsS135.drewN | apply IsS135.drew | apply IsS135.set_0 | apply IsS135.set_1) | exact HI195.out)⟩, ⟨by repeat (first | (with_reducible first | exact HB.out | apply below_alloc | apply pw_below_drewN | apply below_drew1 | refine below_set ?_ (IsS135.ge HI195.out)) | exact HB.out)⟩⟩
  case round =>
   clear H'
   try clear p2
   try clear c4
   try clear c4b0
   try clear c4b1
   try clear c8
   try clear hcz10_0
   try clear hcz10_1
   try clear hcz7_0
   try clear hcz7_1
   try clear hfz10_0
   try clear hfz10_1
   try clear hfz7_0
   try clear hfz7_1
   obtain ⟨x8_1, x9_1, x196000_1, x196001_1, rfl, HA, HK1, HO_8, HI195, HB⟩ := hrel
   cases gk with
   | zero => exact absurd HA.out (by simp [relation_read.l0])
   | succ k1 =>
    have H := HA.out
    clear HA
    simp only [relation_read.l0] at H
    by_cases c11 : x9_1 = true
    ·subst c11
     have H1 : (relation_read.l1 k1 a0 a1 x8_1 ([] : List (S46)) true x196000_1 x196001_1) = some (r1, r2, r3) := by rw [if_pos rfl] at H; exact H
     clear H
     have H := H1
     clear H1
     have H' := Aside0.mk H
     clear H
     go_wp2
     repeat (go_quiet (fail); try go_wp2)
     go_loopg [10, 11] k1 (fun kq v10 v11 w' => ∃ (x10_2 : List (S46)) (x11_2 : Bool) (x196000_2 : ByteArray) (x196001_2 : Int), v11 = .bool x11_2 ∧ Aside0 (relation_read.l1 kq a0 a1 x8_1 x10_2 x11_2 x196000_2 x196001_2 = some (r1, r2, r3)) ∧ Aside0 (kq ≤ k1) ∧ Aside0 (Kd.S (Kd.slice 46 k46) 23 w' w.heap.size (fun k_ => some k_ ≠ (v10 : Value).ownBlock) u8 x8_1) ∧ Aside0 (Kd.R k46 46 w' w.heap.size (fun _ => True) v10 x10_2) ∧ Aside0 (IsS135 w w' gb195 x196000_2 x196001_2) ∧ Aside0 (Below w.heap.size w w'))
     case atStart => exact ⟨(([] : List (S46))), (true), (x196000_1), (x196001_1), (by first | rfl | (simp; done) | (simp [*]; done)), H', ⟨Nat.le_refl _⟩, ⟨by (with_reducible repeat (first | apply Kd.S_alloc | apply Kd.S_drewN | apply Kd.S_drew)); exact Kd.S_mono HO_8.out (fun _ hk => (by simp [Value.ownBlock]))⟩, ⟨by first | exact Kd.R_nil _ _ _ _ _ | exact Kd.N_nil _ _ _ _ _ | exact Kd.V_nil _ _ _ _ _ | exact Kd.Q_nil _ _ _ _ _ | exact Kd.S_nil _ _ _ _ _⟩, ⟨by repeat (first | (with_reducible first | exact HI195.out | apply IsS135.alloc | apply IsS135.drewN | apply IsS135.drew | apply IsS135.set_0 | apply IsS135.set_1) | exact HI195.out)⟩, ⟨by repeat (first | (with_reducible first | exact HB.out | apply below_alloc | apply pw_below_drewN | apply below_drew1 | refine below_set ?_ (IsS135.ge HI195.out)) | exact HB.out)⟩⟩
     case round =>
      clear H'
      try clear c1
      try clear p2
      try clear c4
      try clear c4b0
      try clear c4b1
      try clear c8
      try clear c11
      try clear hcz10_0
      try clear hcz10_1
      try clear hcz7_0
      try clear hcz7_1
      try clear hfz10_0
      try clear hfz10_1
      try clear hfz7_0
      try clear hfz7_1
      try clear p2
      obtain ⟨x10_2, x11_2, x196000_2, x196001_2, rfl, HA, HK2, HO_8, HO_10, HI195, HB⟩ := hrel
      cases gk with
      | zero => exact absurd HA.out (by simp [relation_read.l1])
      | succ k2 =>
       have H := HA.out
       clear HA
       simp only [relation_read.l1] at H
       by_cases c12 : x11_2 = true
       ·subst c12
        have H1 : ((relation_reader_relation.f k2 x196000_2 x196001_2).bind fun bt204 => (if bt204.2.2.2.1 = 0 then (if x10_2.length < 3518437208883 then ((some (x10_2 ++ [(⟨bt204.1, bt204.2.1, bt204.2.2.1⟩ : S46)] : List (S46))).bind fun y211 => (if a1 = true then ((relation_reader_takes.f k2 bt204.2.2.2.2.1 bt204.2.2.2.2.2 124).bind fun bt214 => (relation_read.l1 k2 a0 a1 x8_1 y211 bt214.1 bt214.2.1 bt214.2.2)) else (relation_read.l1 k2 a0 a1 x8_1 y211 false bt204.2.2.2.2.1 bt204.2.2.2.2.2))) else (none)) else (some (([] : List (List (S46))), bt204.2.2.2.1, bt204.2.2.2.2.2)))) = some (r1, r2, r3) := by rw [if_pos rfl] at H; exact H
        clear H
        have H := H1
        clear H1
        replace H := Option.bind_eq_some_iff.mp H
        obtain ⟨⟨t204, t205, t206, t207, t208, t209⟩, A130, H⟩ := H
        replace H : (if t207 = 0 then (if x10_2.length < 3518437208883 then ((some (x10_2 ++ [(⟨t204, t205, t206⟩ : S46)] : List (S46))).bind fun y211 => (if a1 = true then ((relation_reader_takes.f k2 t208 t209 124).bind fun bt214 => (relation_read.l1 k2 a0 a1 x8_1 y211 bt214.1 bt214.2.1 bt214.2.2)) else (relation_read.l1 k2 a0 a1 x8_1 y211 false t208 t209))) else (none)) else (some (([] : List (List (S46))), t207, t209))) = some (r1, r2, r3) := H
        have A13 := Aside0.mk A130
        clear A130
        by_cases c14 : t207 = 0
        ·rw [if_pos c14] at H
         have c14b0 : (t207 == 0) = true := beq_iff_eq.mpr c14
         have c14b1 : (t207 != 0) = false := bne_eq_false_iff_eq.mpr c14
         clear c14
         by_cases c15 : x10_2.length < 3518437208883
         ·rw [if_pos c15] at H
          have LMc15 := Aside0.mk c15
          clear c15
          obtain ⟨y211, hy211⟩ : ∃ y_ : List (S46), y_ = (x10_2 ++ [(⟨t204, t205, t206⟩ : S46)]) := ⟨_, rfl⟩
          replace H : (if a1 = true then ((relation_reader_takes.f k2 t208 t209 124).bind fun bt214 => (relation_read.l1 k2 a0 a1 x8_1 y211 bt214.1 bt214.2.1 bt214.2.2)) else (relation_read.l1 k2 a0 a1 x8_1 y211 false t208 t209)) = some (r1, r2, r3) := by first | (rw [hy211]; with_reducible exact H) | (have H2_ := (Option.bind_some _ _).symm.trans H; rw [hy211]; with_reducible exact H2_) | (have H2_ := (Option.bind_some _ _).symm.trans H; with_reducible exact H2_) | with_reducible exact H | (rw [hy211]; exact H) | exact H
          have Ny211 := Aside0.mk hy211
          clear hy211
          by_cases c16 : a1 = true
          ·subst c16
           have H1 : ((relation_reader_takes.f k2 t208 t209 124).bind fun bt214 => (relation_read.l1 k2 a0 true x8_1 y211 bt214.1 bt214.2.1 bt214.2.2)) = some (r1, r2, r3) := by rw [if_pos rfl] at H; exact H
           clear H
           have H := H1
           clear H1
           replace H := Option.bind_eq_some_iff.mp H
           obtain ⟨⟨t214, t215, t216⟩, A170, H⟩ := H
           replace H : (relation_read.l1 k2 a0 true x8_1 y211 t214 t215 t216) = some (r1, r2, r3) := H
           have A17 := Aside0.mk A170
           clear A170
           have H' := Aside0.mk H
           clear H
           go_wp2_with (first | (go_at_call 108; (with_reducible refine (relation_reader_relation.calls k2 gb195 x196000_2 x196001_2 t204 t205 t206 t207 t208 t209 w _ ?side1 ?side2 ?side3 A13.out).mono ?_); (case side1 => repeat (first | (with_reducible first | exact HI195.out | apply IsS135.alloc | apply IsS135.drewN | apply IsS135.drew | apply IsS135.set_0 | apply IsS135.set_1) | exact HI195.out)); (case side2 => repeat (first | (with_reducible first | exact HB.out | apply below_alloc | apply pw_below_drewN | apply below_drew1 | refine below_set ?_ (IsS135.ge HI195.out)) | exact HB.out)); (case side3 => exact HG.out); rintro e w18 ⟨rfl, hi, hb, hk⟩; have n0_ := Aside0.mk (Kd.S_mono (Kd.S_keep (IsS135.apartS (show IsS135 w _ gb195 x196000_2 x196001_2 from by repeat (first | (with_reducible first | exact HI195.out | apply IsS135.alloc | apply IsS135.drewN | apply IsS135.drew | apply IsS135.set_0 | apply IsS135.set_1) | exact HI195.out)) (Sq HO_8.out) (by decide)) hk (fun _ h => h.2)) (fun _ h => h.1)); have n1_ := Aside0.mk (Kd.R_mono (Kd.R_keep (IsS135.apart (show IsS135 w _ gb195 x196000_2 x196001_2 from by repeat (first | (with_reducible first | exact HI195.out | apply IsS135.alloc | apply IsS135.drewN | apply IsS135.drew | apply IsS135.set_0 | apply IsS135.set_1) | exact HI195.out)) (Rq HO_10.out) (by decide)) hk (fun _ h => h.2)) (fun _ h => h.1)); have n2_ := Aside0.mk (hb); have n3_ := Aside0.mk (hi); clear HO_8; clear HO_10; clear HB; clear HI195; have HO_8 := n0_; have HO_10 := n1_; have HB := n2_; have HI195 := n3_; clear n0_ n1_ n2_ n3_; (try clear hb); (try clear hb2); (try clear hk); (try clear hi)) | ((with_reducible refine gate_dst (N := 12) rfl ?_); refine box_event ?hg (N := 12) ?hd (cs := #[.string (⟨#[]⟩ : ByteArray), .int .i64 0, .string (⟨#[]⟩ : ByteArray)]) (t := 46) ?hr ?_; (case hd => rfl); (case hg => rfl); (case hr => first | (go_simp; done) | (go_simp; rfl)); intro gb210 hg w19 hbox hb; have n0_ := Aside0.mk (Kd.S_below (Kd.S_elderB (Sq HO_8.out) gb210 (Nat.le_of_eq hg.symm)) hb); have n1_ := Aside0.mk (Kd.R_below (Kd.R_elderB (Rq HO_10.out) gb210 (Nat.le_of_eq hg.symm)) hb); have n2_ := Aside0.mk (IsS135.below (by repeat (first | (with_reducible first | exact HI195.out | apply IsS135.alloc | apply IsS135.drewN | apply IsS135.drew | apply IsS135.set_0 | apply IsS135.set_1) | exact HI195.out)) hb); have n3_ := Aside0.mk (below_step (by repeat (first | (with_reducible first | exact HB.out | apply below_alloc | apply pw_below_drewN | apply below_drew1 | refine below_set ?_ (IsS135.ge HI195.out)) | exact HB.out)) hb); have n4_ := Aside0.mk (hbox); have n5_ := Aside0.mk ((by rw [hg]; exact (below_size (by repeat (first | (with_reducible first | exact HB.out | apply below_alloc | apply pw_below_drewN | apply below_drew1 | refine below_set ?_ (IsS135.ge HI195.out)) | exact HB.out))) : w.heap.size ≤ gb210)); have n6_ := Aside0.mk ((by rw [hg]; exact (below_size (by repeat (first | (with_reducible first | exact HB.out | apply below_alloc | apply pw_below_drewN | apply below_drew1 | refine below_set ?_ (IsS135.ge HI195.out)) | exact HB.out))) : w.heap.size ≤ gb210)); have n7_ := Aside0.mk ((by rw [hg]; exact Nat.ne_of_lt (IsS135.lt (show IsS135 w _ gb195 t208 t209 from by repeat (first | (with_reducible first | exact HI195.out | apply IsS135.alloc | apply IsS135.drewN | apply IsS135.drew | apply IsS135.set_0 | apply IsS135.set_1) | exact HI195.out))) : gb195 ≠ gb210)); have n8_ := Aside0.mk ((by rw [hg]; exact Nat.ne_of_gt (IsS135.lt (show IsS135 w _ gb195 t208 t209 from by repeat (first | (with_reducible first | exact HI195.out | apply IsS135.alloc | apply IsS135.drewN | apply IsS135.drew | apply IsS135.set_0 | apply IsS135.set_1) | exact HI195.out))) : gb210 ≠ gb195)); clear HO_8; clear HO_10; clear HI195; clear HB; have HO_8 := n0_; have HO_10 := n1_; have HI195 := n2_; have HB := n3_; have BK210 := n4_; have GW210 := n5_; have GE210 := n6_; have NB195_210 := n7_; have NB210_195 := n8_; clear n0_ n1_ n2_ n3_ n4_ n5_ n6_ n7_ n8_; clear hb hbox hg; have hnb20 := NB210_195.out; have hnc20 := NB195_210.out; have hcz21_0 : w19.cell? ⟨gb210, 0, none⟩ = some (.string (⟨#[]⟩ : ByteArray)) := (blk_cell BK210.out 0).trans rfl; have hcz21_1 : w19.cell? ⟨gb210, 1, none⟩ = some (.int .i64 0) := (blk_cell BK210.out 1).trans rfl; have hcz21_2 : w19.cell? ⟨gb210, 2, none⟩ = some (.string (⟨#[]⟩ : ByteArray)) := (blk_cell BK210.out 2).trans rfl; have hfz21_0 := blk_frozen BK210.out 0; have hfz21_1 := blk_frozen BK210.out 1; have hfz21_2 := blk_frozen BK210.out 2) | ((with_reducible refine gate_builtin (b := .append) (xs := #[.tmp 40, .tmp 42]) rfl ?_); at_builtin; refine Kd.R_append k46 (w0 := w) w.heap.size rfl (.tmp 40) (.tmp 42) 23 46 (.agg #[(.string ⟨#[]⟩), (.int .i64 0), (.string ⟨#[]⟩)]) 40 rfl Tryd.underlying23 info46 rfl (by decide) (by omega) u10 x10_2 (⟨t204, t205, t206⟩ : S46) [.string t204, .int .i64 t205, .string t206] (fun k_ => k_ ≠ gb210) (fun _ => False) rfl (by first | (go_simp; done) | (go_simp; rfl)) ?aP (fun _ hk => hk.elim) ?aF ?aO ?aB ?aS ?aL ?_; (case aP => exact k46_mkM _ _ _ (⟨t204, t205, t206⟩ : S46)); (case aB => exact (by repeat (first | (with_reducible first | exact HB.out | apply below_alloc | apply pw_below_drewN | apply below_drew1 | refine below_set ?_ (IsS135.ge HI195.out) | refine below_set ?_ GE210.out) | exact HB.out))); (case aF => exact (fun k_ hk => Kd.freshB (g := gb210) (o := .cells #[.string t204, .int .i64 t205, .string t206] 46 (0, 0)) (by (with_reducible repeat (first | refine blk_drewN ?_ _ | refine blk_drew ?_ | refine blk_alloc ?_ _)); refine blk_put (cs := #[.string t204, .int .i64 t205, .string (⟨#[]⟩ : ByteArray)]) ?_ 2 _ rfl; (with_reducible repeat (first | refine blk_drewN ?_ _ | refine blk_drew ?_ | refine blk_alloc ?_ _)); refine blk_put (cs := #[.string t204, .int .i64 0, .string (⟨#[]⟩ : ByteArray)]) ?_ 1 _ rfl; (with_reducible repeat (first | refine blk_drewN ?_ _ | refine blk_drew ?_ | refine blk_alloc ?_ _)); refine blk_put (cs := #[.string (⟨#[]⟩ : ByteArray), .int .i64 0, .string (⟨#[]⟩ : ByteArray)]) ?_ 0 _ rfl; (with_reducible repeat (first | refine blk_drewN ?_ _ | refine blk_drew ?_ | refine blk_alloc ?_ _)); exact BK210.out) k_ hk)); (case aO => exact (by (with_reducible repeat (first | apply Kd.R_alloc | apply Kd.R_drewN | apply Kd.R_drew)); exact Kd.R_mono (Kd.R_far (p := ⟨gb210, 2, none⟩) (Kd.R_far (p := ⟨gb210, 1, none⟩) (Kd.R_far (p := ⟨gb210, 0, none⟩) (Kd.R_mono HO_10.out (fun k_ hk => (⟨hk, hk.2⟩ : _ ∧ k_ ≠ gb210))) (fun _ hk => hk.2) (.string t204)) (fun _ hk => hk.2) (.int .i64 t205)) (fun _ hk => hk.2) (.string t206)) (fun _ hk => hk.1.2))); (case aS => exact (below_size (by repeat (first | (with_reducible first | exact HB.out | apply below_alloc | apply pw_below_drewN | apply below_drew1 | refine below_set ?_ (IsS135.ge HI195.out) | refine below_set ?_ GE210.out) | exact HB.out)))); (case aL => have := LMc15.out; omega); intro v212 w22 ho hb hg hat; rw [← Ny211.out] at ho; have n0_ := Aside0.mk (Kd.S_after (ok := (fun k_ => k_ ≠ gb210)) (by (with_reducible repeat (first | apply Kd.S_alloc | apply Kd.S_drewN | apply Kd.S_drew)); exact Kd.S_mono (Kd.S_far (p := ⟨gb210, 2, none⟩) (Kd.S_far (p := ⟨gb210, 1, none⟩) (Kd.S_far (p := ⟨gb210, 0, none⟩) (Kd.S_mono HO_8.out (fun k_ hk => (⟨hk, hk.2⟩ : _ ∧ k_ ≠ gb210))) (fun _ hk => hk.2) (.string t204)) (fun _ hk => hk.2) (.int .i64 t205)) (fun _ hk => hk.2) (.string t206)) (fun _ hk => ⟨hk.1.2, hk.1.1⟩)) hg hat); have n1_ := Aside0.mk (IsS135.grown (show IsS135 w _ gb195 t208 t209 from by repeat (first | (with_reducible first | exact HI195.out | apply IsS135.alloc | apply IsS135.drewN | apply IsS135.drew | apply IsS135.set_0 | apply IsS135.set_1 | refine IsS135.far ?_ NB195_210.out _) | exact HI195.out)) hg (IsS135.own_ne HI195.out HO_10.out (by decide))); have n2_ := Aside0.mk (blk_grown (g := gb210) (o := .cells #[.string t204, .int .i64 t205, .string t206] 46 (0, 0)) (by (with_reducible repeat (first | refine blk_drewN ?_ _ | refine blk_drew ?_ | refine blk_alloc ?_ _)); refine blk_put (cs := #[.string t204, .int .i64 t205, .string (⟨#[]⟩ : ByteArray)]) ?_ 2 _ rfl; (with_reducible repeat (first | refine blk_drewN ?_ _ | refine blk_drew ?_ | refine blk_alloc ?_ _)); refine blk_put (cs := #[.string t204, .int .i64 0, .string (⟨#[]⟩ : ByteArray)]) ?_ 1 _ rfl; (with_reducible repeat (first | refine blk_drewN ?_ _ | refine blk_drew ?_ | refine blk_alloc ?_ _)); refine blk_put (cs := #[.string (⟨#[]⟩ : ByteArray), .int .i64 0, .string (⟨#[]⟩ : ByteArray)]) ?_ 0 _ rfl; (with_reducible repeat (first | refine blk_drewN ?_ _ | refine blk_drew ?_ | refine blk_alloc ?_ _)); exact BK210.out) hg (Kd.R_away HO_10.out (fun _ hk => hk.2))); have n3_ := Aside0.mk (hb); have n4_ := Aside0.mk (ho); clear HO_8; clear HI195; clear BK210; clear HB; clear HO_10; have HO_8 := n0_; have HI195 := n1_; have BK210 := n2_; have HB := n3_; have HO213 := n4_; clear n0_ n1_ n2_ n3_ n4_; clear ho hb hg hat) | (go_at_call 109; (with_reducible refine (relation_reader_takes.calls k2 gb195 t208 t209 124 t214 t215 t216 w _ ?side1 ?side2 A17.out).mono ?_); (case side1 => repeat (first | (with_reducible first | exact HI195.out | apply IsS135.alloc | apply IsS135.drewN | apply IsS135.drew | apply IsS135.set_0 | apply IsS135.set_1 | refine IsS135.far ?_ NB195_210.out _) | exact HI195.out)); (case side2 => repeat (first | (with_reducible first | exact HB.out | apply below_alloc | apply pw_below_drewN | apply below_drew1 | refine below_set ?_ (IsS135.ge HI195.out) | refine below_set ?_ GE210.out) | exact HB.out)); rintro e w23 ⟨rfl, hi, hb, hk⟩; have n0_ := Aside0.mk (Kd.S_mono (Kd.S_keep (IsS135.apartS (show IsS135 w _ gb195 t208 t209 from by repeat (first | (with_reducible first | exact HI195.out | apply IsS135.alloc | apply IsS135.drewN | apply IsS135.drew | apply IsS135.set_0 | apply IsS135.set_1 | refine IsS135.far ?_ NB195_210.out _) | exact HI195.out)) (Sq HO_8.out) (by decide)) hk (fun _ h => h.2)) (fun _ h => h.1)); have n1_ := Aside0.mk (KeepBut.blk hk (g' := gb210) (Bq BK210.out) NB210_195.out (by simp)); have n2_ := Aside0.mk (Kd.R_mono (Kd.R_keep (IsS135.apart (show IsS135 w _ gb195 t208 t209 from by repeat (first | (with_reducible first | exact HI195.out | apply IsS135.alloc | apply IsS135.drewN | apply IsS135.drew | apply IsS135.set_0 | apply IsS135.set_1 | refine IsS135.far ?_ NB195_210.out _) | exact HI195.out)) (Rq HO213.out) (by decide)) hk (fun _ h => h.2)) (fun _ h => h.1)); have n3_ := Aside0.mk (hb); have n4_ := Aside0.mk (hi); clear HO_8; clear BK210; clear HO213; clear HB; clear HI195; have HO_8 := n0_; have BK210 := n1_; have HO213 := n2_; have HB := n3_; have HI195 := n4_; clear n0_ n1_ n2_ n3_ n4_; (try clear hb); (try clear hb2); (try clear hk); (try clear hi)))
           repeat (go_quiet (first | (go_at_call 108; (with_reducible refine (relation_reader_relation.calls k2 gb195 x196000_2 x196001_2 t204 t205 t206 t207 t208 t209 w _ ?side1 ?side2 ?side3 A13.out).mono ?_); (case side1 => repeat (first | (with_reducible first | exact HI195.out | apply IsS135.alloc | apply IsS135.drewN | apply IsS135.drew | apply IsS135.set_0 | apply IsS135.set_1) | exact HI195.out)); (case side2 => repeat (first | (with_reducible first | exact HB.out | apply below_alloc | apply pw_below_drewN | apply below_drew1 | refine below_set ?_ (IsS135.ge HI195.out)) | exact HB.out)); (case side3 => exact HG.out); rintro e w18 ⟨rfl, hi, hb, hk⟩; have n0_ := Aside0.mk (Kd.S_mono (Kd.S_keep (IsS135.apartS (show IsS135 w _ gb195 x196000_2 x196001_2 from by repeat (first | (with_reducible first | exact HI195.out | apply IsS135.alloc | apply IsS135.drewN | apply IsS135.drew | apply IsS135.set_0 | apply IsS135.set_1) | exact HI195.out)) (Sq HO_8.out) (by decide)) hk (fun _ h => h.2)) (fun _ h => h.1)); have n1_ := Aside0.mk (Kd.R_mono (Kd.R_keep (IsS135.apart (show IsS135 w _ gb195 x196000_2 x196001_2 from by repeat (first | (with_reducible first | exact HI195.out | apply IsS135.alloc | apply IsS135.drewN | apply IsS135.drew | apply IsS135.set_0 | apply IsS135.set_1) | exact HI195.out)) (Rq HO_10.out) (by decide)) hk (fun _ h => h.2)) (fun _ h => h.1)); have n2_ := Aside0.mk (hb); have n3_ := Aside0.mk (hi); clear HO_8; clear HO_10; clear HB; clear HI195; have HO_8 := n0_; have HO_10 := n1_; have HB := n2_; have HI195 := n3_; clear n0_ n1_ n2_ n3_; (try clear hb); (try clear hb2); (try clear hk); (try clear hi)) | ((with_reducible refine gate_dst (N := 12) rfl ?_); refine box_event ?hg (N := 12) ?hd (cs := #[.string (⟨#[]⟩ : ByteArray), .int .i64 0, .string (⟨#[]⟩ : ByteArray)]) (t := 46) ?hr ?_; (case hd => rfl); (case hg => rfl); (case hr => first | (go_simp; done) | (go_simp; rfl)); intro gb210 hg w19 hbox hb; have n0_ := Aside0.mk (Kd.S_below (Kd.S_elderB (Sq HO_8.out) gb210 (Nat.le_of_eq hg.symm)) hb); have n1_ := Aside0.mk (Kd.R_below (Kd.R_elderB (Rq HO_10.out) gb210 (Nat.le_of_eq hg.symm)) hb); have n2_ := Aside0.mk (IsS135.below (by repeat (first | (with_reducible first | exact HI195.out | apply IsS135.alloc | apply IsS135.drewN | apply IsS135.drew | apply IsS135.set_0 | apply IsS135.set_1) | exact HI195.out)) hb); have n3_ := Aside0.mk (below_step (by repeat (first | (with_reducible first | exact HB.out | apply below_alloc | apply pw_below_drewN | apply below_drew1 | refine below_set ?_ (IsS135.ge HI195.out)) | exact HB.out)) hb); have n4_ := Aside0.mk (hbox); have n5_ := Aside0.mk ((by rw [hg]; exact (below_size (by repeat (first | (with_reducible first | exact HB.out | apply below_alloc | apply pw_below_drewN | apply below_drew1 | refine below_set ?_ (IsS135.ge HI195.out)) | exact HB.out))) : w.heap.size ≤ gb210)); have n6_ := Aside0.mk ((by rw [hg]; exact (below_size (by repeat (first | (with_reducible first | exact HB.out | apply below_alloc | apply pw_below_drewN | apply below_drew1 | refine below_set ?_ (IsS135.ge HI195.out)) | exact HB.out))) : w.heap.size ≤ gb210)); have n7_ := Aside0.mk ((by rw [hg]; exact Nat.ne_of_lt (IsS135.lt (show IsS135 w _ gb195 t208 t209 from by repeat (first | (with_reducible first | exact HI195.out | apply IsS135.alloc | apply IsS135.drewN | apply IsS135.drew | apply IsS135.set_0 | apply IsS135.set_1) | exact HI195.out))) : gb195 ≠ gb210)); have n8_ := Aside0.mk ((by rw [hg]; exact Nat.ne_of_gt (IsS135.lt (show IsS135 w _ gb195 t208 t209 from by repeat (first | (with_reducible first | exact HI195.out | apply IsS135.alloc | apply IsS135.drewN | apply IsS135.drew | apply IsS135.set_0 | apply IsS135.set_1) | exact HI195.out))) : gb210 ≠ gb195)); clear HO_8; clear HO_10; clear HI195; clear HB; have HO_8 := n0_; have HO_10 := n1_; have HI195 := n2_; have HB := n3_; have BK210 := n4_; have GW210 := n5_; have GE210 := n6_; have NB195_210 := n7_; have NB210_195 := n8_; clear n0_ n1_ n2_ n3_ n4_ n5_ n6_ n7_ n8_; clear hb hbox hg; have hnb20 := NB210_195.out; have hnc20 := NB195_210.out; have hcz21_0 : w19.cell? ⟨gb210, 0, none⟩ = some (.string (⟨#[]⟩ : ByteArray)) := (blk_cell BK210.out 0).trans rfl; have hcz21_1 : w19.cell? ⟨gb210, 1, none⟩ = some (.int .i64 0) := (blk_cell BK210.out 1).trans rfl; have hcz21_2 : w19.cell? ⟨gb210, 2, none⟩ = some (.string (⟨#[]⟩ : ByteArray)) := (blk_cell BK210.out 2).trans rfl; have hfz21_0 := blk_frozen BK210.out 0; have hfz21_1 := blk_frozen BK210.out 1; have hfz21_2 := blk_frozen BK210.out 2) | ((with_reducible refine gate_builtin (b := .append) (xs := #[.tmp 40, .tmp 42]) rfl ?_); at_builtin; refine Kd.R_append k46 (w0 := w) w.heap.size rfl (.tmp 40) (.tmp 42) 23 46 (.agg #[(.string ⟨#[]⟩), (.int .i64 0), (.string ⟨#[]⟩)]) 40 rfl Tryd.underlying23 info46 rfl (by decide) (by omega) u10 x10_2 (⟨t204, t205, t206⟩ : S46) [.string t204, .int .i64 t205, .string t206] (fun k_ => k_ ≠ gb210) (fun _ => False) rfl (by first | (go_simp; done) | (go_simp; rfl)) ?aP (fun _ hk => hk.elim) ?aF ?aO ?aB ?aS ?aL ?_; (case aP => exact k46_mkM _ _ _ (⟨t204, t205, t206⟩ : S46)); (case aB => exact (by repeat (first | (with_reducible first | exact HB.out | apply below_alloc | apply pw_below_drewN | apply below_drew1 | refine below_set ?_ (IsS135.ge HI195.out) | refine below_set ?_ GE210.out) | exact HB.out))); (case aF => exact (fun k_ hk => Kd.freshB (g := gb210) (o := .cells #[.string t204, .int .i64 t205, .string t206] 46 (0, 0)) (by (with_reducible repeat (first | refine blk_drewN ?_ _ | refine blk_drew ?_ | refine blk_alloc ?_ _)); refine blk_put (cs := #[.string t204, .int .i64 t205, .string (⟨#[]⟩ : ByteArray)]) ?_ 2 _ rfl; (with_reducible repeat (first | refine blk_drewN ?_ _ | refine blk_drew ?_ | refine blk_alloc ?_ _)); refine blk_put (cs := #[.string t204, .int .i64 0, .string (⟨#[]⟩ : ByteArray)]) ?_ 1 _ rfl; (with_reducible repeat (first | refine blk_drewN ?_ _ | refine blk_drew ?_ | refine blk_alloc ?_ _)); refine blk_put (cs := #[.string (⟨#[]⟩ : ByteArray), .int .i64 0, .string (⟨#[]⟩ : ByteArray)]) ?_ 0 _ rfl; (with_reducible repeat (first | refine blk_drewN ?_ _ | refine blk_drew ?_ | refine blk_alloc ?_ _)); exact BK210.out) k_ hk)); (case aO => exact (by (with_reducible repeat (first | apply Kd.R_alloc | apply Kd.R_drewN | apply Kd.R_drew)); exact Kd.R_mono (Kd.R_far (p := ⟨gb210, 2, none⟩) (Kd.R_far (p := ⟨gb210, 1, none⟩) (Kd.R_far (p := ⟨gb210, 0, none⟩) (Kd.R_mono HO_10.out (fun k_ hk => (⟨hk, hk.2⟩ : _ ∧ k_ ≠ gb210))) (fun _ hk => hk.2) (.string t204)) (fun _ hk => hk.2) (.int .i64 t205)) (fun _ hk => hk.2) (.string t206)) (fun _ hk => hk.1.2))); (case aS => exact (below_size (by repeat (first | (with_reducible first | exact HB.out | apply below_alloc | apply pw_below_drewN | apply below_drew1 | refine below_set ?_ (IsS135.ge HI195.out) | refine below_set ?_ GE210.out) | exact HB.out)))); (case aL => have := LMc15.out; omega); intro v212 w22 ho hb hg hat; rw [← Ny211.out] at ho; have n0_ := Aside0.mk (Kd.S_after (ok := (fun k_ => k_ ≠ gb210)) (by (with_reducible repeat (first | apply Kd.S_alloc | apply Kd.S_drewN | apply Kd.S_drew)); exact Kd.S_mono (Kd.S_far (p := ⟨gb210, 2, none⟩) (Kd.S_far (p := ⟨gb210, 1, none⟩) (Kd.S_far (p := ⟨gb210, 0, none⟩) (Kd.S_mono HO_8.out (fun k_ hk => (⟨hk, hk.2⟩ : _ ∧ k_ ≠ gb210))) (fun _ hk => hk.2) (.string t204)) (fun _ hk => hk.2) (.int .i64 t205)) (fun _ hk => hk.2) (.string t206)) (fun _ hk => ⟨hk.1.2, hk.1.1⟩)) hg hat); have n1_ := Aside0.mk (IsS135.grown (show IsS135 w _ gb195 t208 t209 from by repeat (first | (with_reducible first | exact HI195.out | apply IsS135.alloc | apply IsS135.drewN | apply IsS135.drew | apply IsS135.set_0 | apply IsS135.set_1 | refine IsS135.far ?_ NB195_210.out _) | exact HI195.out)) hg (IsS135.own_ne HI195.out HO_10.out (by decide))); have n2_ := Aside0.mk (blk_grown (g := gb210) (o := .cells #[.string t204, .int .i64 t205, .string t206] 46 (0, 0)) (by (with_reducible repeat (first | refine blk_drewN ?_ _ | refine blk_drew ?_ | refine blk_alloc ?_ _)); refine blk_put (cs := #[.string t204, .int .i64 t205, .string (⟨#[]⟩ : ByteArray)]) ?_ 2 _ rfl; (with_reducible repeat (first | refine blk_drewN ?_ _ | refine blk_drew ?_ | refine blk_alloc ?_ _)); refine blk_put (cs := #[.string t204, .int .i64 0, .string (⟨#[]⟩ : ByteArray)]) ?_ 1 _ rfl; (with_reducible repeat (first | refine blk_drewN ?_ _ | refine blk_drew ?_ | refine blk_alloc ?_ _)); refine blk_put (cs := #[.string (⟨#[]⟩ : ByteArray), .int .i64 0, .string (⟨#[]⟩ : ByteArray)]) ?_ 0 _ rfl; (with_reducible repeat (first | refine blk_drewN ?_ _ | refine blk_drew ?_ | refine blk_alloc ?_ _)); exact BK210.out) hg (Kd.R_away HO_10.out (fun _ hk => hk.2))); have n3_ := Aside0.mk (hb); have n4_ := Aside0.mk (ho); clear HO_8; clear HI195; clear BK210; clear HB; clear HO_10; have HO_8 := n0_; have HI195 := n1_; have BK210 := n2_; have HB := n3_; have HO213 := n4_; clear n0_ n1_ n2_ n3_ n4_; clear ho hb hg hat) | (go_at_call 109; (with_reducible refine (relation_reader_takes.calls k2 gb195 t208 t209 124 t214 t215 t216 w _ ?side1 ?side2 A17.out).mono ?_); (case side1 => repeat (first | (with_reducible first | exact HI195.out | apply IsS135.alloc | apply IsS135.drewN | apply IsS135.drew | apply IsS135.set_0 | apply IsS135.set_1 | refine IsS135.far ?_ NB195_210.out _) | exact HI195.out)); (case side2 => repeat (first | (with_reducible first | exact HB.out | apply below_alloc | apply pw_below_drewN | apply below_drew1 | refine below_set ?_ (IsS135.ge HI195.out) | refine below_set ?_ GE210.out) | exact HB.out)); rintro e w23 ⟨rfl, hi, hb, hk⟩; have n0_ := Aside0.mk (Kd.S_mono (Kd.S_keep (IsS135.apartS (show IsS135 w _ gb195 t208 t209 from by repeat (first | (with_reducible first | exact HI195.out | apply IsS135.alloc | apply IsS135.drewN | apply IsS135.drew | apply IsS135.set_0 | apply IsS135.set_1 | refine IsS135.far ?_ NB195_210.out _) | exact HI195.out)) (Sq HO_8.out) (by decide)) hk (fun _ h => h.2)) (fun _ h => h.1)); have n1_ := Aside0.mk (KeepBut.blk hk (g' := gb210) (Bq BK210.out) NB210_195.out (by simp)); have n2_ := Aside0.mk (Kd.R_mono (Kd.R_keep (IsS135.apart (show IsS135 w _ gb195 t208 t209 from by repeat (first | (with_reducible first | exact HI195.out | apply IsS135.alloc | apply IsS135.drewN | apply IsS135.drew | apply IsS135.set_0 | apply IsS135.set_1 | refine IsS135.far ?_ NB195_210.out _) | exact HI195.out)) (Rq HO213.out) (by decide)) hk (fun _ h => h.2)) (fun _ h => h.1)); have n3_ := Aside0.mk (hb); have n4_ := Aside0.mk (hi); clear HO_8; clear BK210; clear HO213; clear HB; clear HI195; have HO_8 := n0_; have BK210 := n1_; have HO213 := n2_; have HB := n3_; have HI195 := n4_; clear n0_ n1_ n2_ n3_ n4_; (try clear hb); (try clear hb2); (try clear hk); (try clear hi))); try go_wp2_with (first | (go_at_call 108; (with_reducible refine (relation_reader_relation.calls k2 gb195 x196000_2 x196001_2 t204 t205 t206 t207 t208 t209 w _ ?side1 ?side2 ?side3 A13.out).mono ?_); (case side1 => repeat (first | (with_reducible first | exact HI195.out | apply IsS135.alloc | apply IsS135.drewN | apply IsS135.drew | apply IsS135.set_0 | apply IsS135.set_1) | exact HI195.out)); (case side2 => repeat (first | (with_reducible first | exact HB.out | apply below_alloc | apply pw_below_drewN | apply below_drew1 | refine below_set ?_ (IsS135.ge HI195.out)) | exact HB.out)); (case side3 => exact HG.out); rintro e w18 ⟨rfl, hi, hb, hk⟩; have n0_ := Aside0.mk (Kd.S_mono (Kd.S_keep (IsS135.apartS (show IsS135 w _ gb195 x196000_2 x196001_2 from by repeat (first | (with_reducible first | exact HI195.out | apply IsS135.alloc | apply IsS135.drewN | apply IsS135.drew | apply IsS135.set_0 | apply IsS135.set_1) | exact HI195.out)) (Sq HO_8.out) (by decide)) hk (fun _ h => h.2)) (fun _ h => h.1)); have n1_ := Aside0.mk (Kd.R_mono (Kd.R_keep (IsS135.apart (show IsS135 w _ gb195 x196000_2 x196001_2 from by repeat (first | (with_reducible first | exact HI195.out | apply IsS135.alloc | apply IsS135.drewN | apply IsS135.drew | apply IsS135.set_0 | apply IsS135.set_1) | exact HI195.out)) (Rq HO_10.out) (by decide)) hk (fun _ h => h.2)) (fun _ h => h.1)); have n2_ := Aside0.mk (hb); have n3_ := Aside0.mk (hi); clear HO_8; clear HO_10; clear HB; clear HI195; have HO_8 := n0_; have HO_10 := n1_; have HB := n2_; have HI195 := n3_; clear n0_ n1_ n2_ n3_; (try clear hb); (try clear hb2); (try clear hk); (try clear hi)) | ((with_reducible refine gate_dst (N := 12) rfl ?_); refine box_event ?hg (N := 12) ?hd (cs := #[.string (⟨#[]⟩ : ByteArray), .int .i64 0, .string (⟨#[]⟩ : ByteArray)]) (t := 46) ?hr ?_; (case hd => rfl); (case hg => rfl); (case hr => first | (go_simp; done) | (go_simp; rfl)); intro gb210 hg w19 hbox hb; have n0_ := Aside0.mk (Kd.S_below (Kd.S_elderB (Sq HO_8.out) gb210 (Nat.le_of_eq hg.symm)) hb); have n1_ := Aside0.mk (Kd.R_below (Kd.R_elderB (Rq HO_10.out) gb210 (Nat.le_of_eq hg.symm)) hb); have n2_ := Aside0.mk (IsS135.below (by repeat (first | (with_reducible first | exact HI195.out | apply IsS135.alloc | apply IsS135.drewN | apply IsS135.drew | apply IsS135.set_0 | apply IsS135.set_1) | exact HI195.out)) hb); have n3_ := Aside0.mk (below_step (by repeat (first | (with_reducible first | exact HB.out | apply below_alloc | apply pw_below_drewN | apply below_drew1 | refine below_set ?_ (IsS135.ge HI195.out)) | exact HB.out)) hb); have n4_ := Aside0.mk (hbox); have n5_ := Aside0.mk ((by rw [hg]; exact (below_size (by repeat (first | (with_reducible first | exact HB.out | apply below_alloc | apply pw_below_drewN | apply below_drew1 | refine below_set ?_ (IsS135.ge HI195.out)) | exact HB.out))) : w.heap.size ≤ gb210)); have n6_ := Aside0.mk ((by rw [hg]; exact (below_size (by repeat (first | (with_reducible first | exact HB.out | apply below_alloc | apply pw_below_drewN | apply below_drew1 | refine below_set ?_ (IsS135.ge HI195.out)) | exact HB.out))) : w.heap.size ≤ gb210)); have n7_ := Aside0.mk ((by rw [hg]; exact Nat.ne_of_lt (IsS135.lt (show IsS135 w _ gb195 t208 t209 from by repeat (first | (with_reducible first | exact HI195.out | apply IsS135.alloc | apply IsS135.drewN | apply IsS135.drew | apply IsS135.set_0 | apply IsS135.set_1) | exact HI195.out))) : gb195 ≠ gb210)); have n8_ := Aside0.mk ((by rw [hg]; exact Nat.ne_of_gt (IsS135.lt (show IsS135 w _ gb195 t208 t209 from by repeat (first | (with_reducible first | exact HI195.out | apply IsS135.alloc | apply IsS135.drewN | apply IsS135.drew | apply IsS135.set_0 | apply IsS135.set_1) | exact HI195.out))) : gb210 ≠ gb195)); clear HO_8; clear HO_10; clear HI195; clear HB; have HO_8 := n0_; have HO_10 := n1_; have HI195 := n2_; have HB := n3_; have BK210 := n4_; have GW210 := n5_; have GE210 := n6_; have NB195_210 := n7_; have NB210_195 := n8_; clear n0_ n1_ n2_ n3_ n4_ n5_ n6_ n7_ n8_; clear hb hbox hg; have hnb20 := NB210_195.out; have hnc20 := NB195_210.out; have hcz21_0 : w19.cell? ⟨gb210, 0, none⟩ = some (.string (⟨#[]⟩ : ByteArray)) := (blk_cell BK210.out 0).trans rfl; have hcz21_1 : w19.cell? ⟨gb210, 1, none⟩ = some (.int .i64 0) := (blk_cell BK210.out 1).trans rfl; have hcz21_2 : w19.cell? ⟨gb210, 2, none⟩ = some (.string (⟨#[]⟩ : ByteArray)) := (blk_cell BK210.out 2).trans rfl; have hfz21_0 := blk_frozen BK210.out 0; have hfz21_1 := blk_frozen BK210.out 1; have hfz21_2 := blk_frozen BK210.out 2) | ((with_reducible refine gate_builtin (b := .append) (xs := #[.tmp 40, .tmp 42]) rfl ?_); at_builtin; refine Kd.R_append k46 (w0 := w) w.heap.size rfl (.tmp 40) (.tmp 42) 23 46 (.agg #[(.string ⟨#[]⟩), (.int .i64 0), (.string ⟨#[]⟩)]) 40 rfl Tryd.underlying23 info46 rfl (by decide) (by omega) u10 x10_2 (⟨t204, t205, t206⟩ : S46) [.string t204, .int .i64 t205, .string t206] (fun k_ => k_ ≠ gb210) (fun _ => False) rfl (by first | (go_simp; done) | (go_simp; rfl)) ?aP (fun _ hk => hk.elim) ?aF ?aO ?aB ?aS ?aL ?_; (case aP => exact k46_mkM _ _ _ (⟨t204, t205, t206⟩ : S46)); (case aB => exact (by repeat (first | (with_reducible first | exact HB.out | apply below_alloc | apply pw_below_drewN | apply below_drew1 | refine below_set ?_ (IsS135.ge HI195.out) | refine below_set ?_ GE210.out) | exact HB.out))); (case aF => exact (fun k_ hk => Kd.freshB (g := gb210) (o := .cells #[.string t204, .int .i64 t205, .string t206] 46 (0, 0)) (by (with_reducible repeat (first | refine blk_drewN ?_ _ | refine blk_drew ?_ | refine blk_alloc ?_ _)); refine blk_put (cs := #[.string t204, .int .i64 t205, .string (⟨#[]⟩ : ByteArray)]) ?_ 2 _ rfl; (with_reducible repeat (first | refine blk_drewN ?_ _ | refine blk_drew ?_ | refine blk_alloc ?_ _)); refine blk_put (cs := #[.string t204, .int .i64 0, .string (⟨#[]⟩ : ByteArray)]) ?_ 1 _ rfl; (with_reducible repeat (first | refine blk_drewN ?_ _ | refine blk_drew ?_ | refine blk_alloc ?_ _)); refine blk_put (cs := #[.string (⟨#[]⟩ : ByteArray), .int .i64 0, .string (⟨#[]⟩ : ByteArray)]) ?_ 0 _ rfl; (with_reducible repeat (first | refine blk_drewN ?_ _ | refine blk_drew ?_ | refine blk_alloc ?_ _)); exact BK210.out) k_ hk)); (case aO => exact (by (with_reducible repeat (first | apply Kd.R_alloc | apply Kd.R_drewN | apply Kd.R_drew)); exact Kd.R_mono (Kd.R_far (p := ⟨gb210, 2, none⟩) (Kd.R_far (p := ⟨gb210, 1, none⟩) (Kd.R_far (p := ⟨gb210, 0, none⟩) (Kd.R_mono HO_10.out (fun k_ hk => (⟨hk, hk.2⟩ : _ ∧ k_ ≠ gb210))) (fun _ hk => hk.2) (.string t204)) (fun _ hk => hk.2) (.int .i64 t205)) (fun _ hk => hk.2) (.string t206)) (fun _ hk => hk.1.2))); (case aS => exact (below_size (by repeat (first | (with_reducible first | exact HB.out | apply below_alloc | apply pw_below_drewN | apply below_drew1 | refine below_set ?_ (IsS135.ge HI195.out) | refine below_set ?_ GE210.out) | exact HB.out)))); (case aL => have := LMc15.out; omega); intro v212 w22 ho hb hg hat; rw [← Ny211.out] at ho; have n0_ := Aside0.mk (Kd.S_after (ok := (fun k_ => k_ ≠ gb210)) (by (with_reducible repeat (first | apply Kd.S_alloc | apply Kd.S_drewN | apply Kd.S_drew)); exact Kd.S_mono (Kd.S_far (p := ⟨gb210, 2, none⟩) (Kd.S_far (p := ⟨gb210, 1, none⟩) (Kd.S_far (p := ⟨gb210, 0, none⟩) (Kd.S_mono HO_8.out (fun k_ hk => (⟨hk, hk.2⟩ : _ ∧ k_ ≠ gb210))) (fun _ hk => hk.2) (.string t204)) (fun _ hk => hk.2) (.int .i64 t205)) (fun _ hk => hk.2) (.string t206)) (fun _ hk => ⟨hk.1.2, hk.1.1⟩)) hg hat); have n1_ := Aside0.mk (IsS135.grown (show IsS135 w _ gb195 t208 t209 from by repeat (first | (with_reducible first | exact HI195.out | apply IsS135.alloc | apply IsS135.drewN | apply IsS135.drew | apply IsS135.set_0 | apply IsS135.set_1 | refine IsS135.far ?_ NB195_210.out _) | exact HI195.out)) hg (IsS135.own_ne HI195.out HO_10.out (by decide))); have n2_ := Aside0.mk (blk_grown (g := gb210) (o := .cells #[.string t204, .int .i64 t205, .string t206] 46 (0, 0)) (by (with_reducible repeat (first | refine blk_drewN ?_ _ | refine blk_drew ?_ | refine blk_alloc ?_ _)); refine blk_put (cs := #[.string t204, .int .i64 t205, .string (⟨#[]⟩ : ByteArray)]) ?_ 2 _ rfl; (with_reducible repeat (first | refine blk_drewN ?_ _ | refine blk_drew ?_ | refine blk_alloc ?_ _)); refine blk_put (cs := #[.string t204, .int .i64 0, .string (⟨#[]⟩ : ByteArray)]) ?_ 1 _ rfl; (with_reducible repeat (first | refine blk_drewN ?_ _ | refine blk_drew ?_ | refine blk_alloc ?_ _)); refine blk_put (cs := #[.string (⟨#[]⟩ : ByteArray), .int .i64 0, .string (⟨#[]⟩ : ByteArray)]) ?_ 0 _ rfl; (with_reducible repeat (first | refine blk_drewN ?_ _ | refine blk_drew ?_ | refine blk_alloc ?_ _)); exact BK210.out) hg (Kd.R_away HO_10.out (fun _ hk => hk.2))); have n3_ := Aside0.mk (hb); have n4_ := Aside0.mk (ho); clear HO_8; clear HI195; clear BK210; clear HB; clear HO_10; have HO_8 := n0_; have HI195 := n1_; have BK210 := n2_; have HB := n3_; have HO213 := n4_; clear n0_ n1_ n2_ n3_ n4_; clear ho hb hg hat) | (go_at_call 109; (with_reducible refine (relation_reader_takes.calls k2 gb195 t208 t209 124 t214 t215 t216 w _ ?side1 ?side2 A17.out).mono ?_); (case side1 => repeat (first | (with_reducible first | exact HI195.out | apply IsS135.alloc | apply IsS135.drewN | apply IsS135.drew | apply IsS135.set_0 | apply IsS135.set_1 | refine IsS135.far ?_ NB195_210.out _) | exact HI195.out)); (case side2 => repeat (first | (with_reducible first | exact HB.out | apply below_alloc | apply pw_below_drewN | apply below_drew1 | refine below_set ?_ (IsS135.ge HI195.out) | refine below_set ?_ GE210.out) | exact HB.out)); rintro e w23 ⟨rfl, hi, hb, hk⟩; have n0_ := Aside0.mk (Kd.S_mono (Kd.S_keep (IsS135.apartS (show IsS135 w _ gb195 t208 t209 from by repeat (first | (with_reducible first | exact HI195.out | apply IsS135.alloc | apply IsS135.drewN | apply IsS135.drew | apply IsS135.set_0 | apply IsS135.set_1 | refine IsS135.far ?_ NB195_210.out _) | exact HI195.out)) (Sq HO_8.out) (by decide)) hk (fun _ h => h.2)) (fun _ h => h.1)); have n1_ := Aside0.mk (KeepBut.blk hk (g' := gb210) (Bq BK210.out) NB210_195.out (by simp)); have n2_ := Aside0.mk (Kd.R_mono (Kd.R_keep (IsS135.apart (show IsS135 w _ gb195 t208 t209 from by repeat (first | (with_reducible first | exact HI195.out | apply IsS135.alloc | apply IsS135.drewN | apply IsS135.drew | apply IsS135.set_0 | apply IsS135.set_1 | refine IsS135.far ?_ NB195_210.out _) | exact HI195.out)) (Rq HO213.out) (by decide)) hk (fun _ h => h.2)) (fun _ h => h.1)); have n3_ := Aside0.mk (hb); have n4_ := Aside0.mk (hi); clear HO_8; clear BK210; clear HO213; clear HB; clear HI195; have HO_8 := n0_; have BK210 := n1_; have HO213 := n2_; have HB := n3_; have HI195 := n4_; clear n0_ n1_ n2_ n3_ n4_; (try clear hb); (try clear hb2); (try clear hk); (try clear hi))))
           go_roundg k2
           case measure => have := HK1.out; have := HK2.out; omega
           case rel => exact ⟨(y211), (t214), (t215), (t216), (by first | rfl | (simp; done) | (simp [*]; done)), H', ⟨by have := HK1.out; have := HK2.out; omega⟩, ⟨by (with_reducible repeat (first | apply Kd.S_alloc | apply Kd.S_drewN | apply Kd.S_drew)); exact Kd.S_mono HO_8.out (fun _ hk => hk.2)⟩, ⟨by (with_reducible repeat (first | apply Kd.R_alloc | apply Kd.R_drewN | apply Kd.R_drew)); exact Kd.R_mono HO213.out (fun _ hk => trivial)⟩, ⟨by repeat (first | (with_reducible first | exact HI195.out | apply IsS135.alloc | apply IsS135.drewN | apply IsS135.drew | apply IsS135.set_0 | apply IsS135.set_1 | refine IsS135.far ?_ NB195_210.out _) | exact HI195.out)⟩, ⟨by repeat (first | (with_reducible first | exact HB.out | apply below_alloc | apply pw_below_drewN | apply below_drew1 | refine below_set ?_ (IsS135.ge HI195.out) | refine below_set ?_ GE210.out) | exact HB.out)⟩⟩
          ·replace c16 := Bool.eq_false_iff.mpr c16
           subst c16
           have H1 : (relation_read.l1 k2 a0 false x8_1 y211 false t208 t209) = some (r1, r2, r3) := by rw [if_neg (show ¬ (false = true) by decide)] at H; exact H
           clear H
           have H := H1
           clear H1
           have H' := Aside0.mk H
           clear H
           go_wp2_with (first | (go_at_call 108; (with_reducible refine (relation_reader_relation.calls k2 gb195 x196000_2 x196001_2 t204 t205 t206 t207 t208 t209 w _ ?side1 ?side2 ?side3 A13.out).mono ?_); (case side1 => repeat (first | (with_reducible first | exact HI195.out | apply IsS135.alloc | apply IsS135.drewN | apply IsS135.drew | apply IsS135.set_0 | apply IsS135.set_1) | exact HI195.out)); (case side2 => repeat (first | (with_reducible first | exact HB.out | apply below_alloc | apply pw_below_drewN | apply below_drew1 | refine below_set ?_ (IsS135.ge HI195.out)) | exact HB.out)); (case side3 => exact HG.out); rintro e w24 ⟨rfl, hi, hb, hk⟩; have n0_ := Aside0.mk (Kd.S_mono (Kd.S_keep (IsS135.apartS (show IsS135 w _ gb195 x196000_2 x196001_2 from by repeat (first | (with_reducible first | exact HI195.out | apply IsS135.alloc | apply IsS135.drewN | apply IsS135.drew | apply IsS135.set_0 | apply IsS135.set_1) | exact HI195.out)) (Sq HO_8.out) (by decide)) hk (fun _ h => h.2)) (fun _ h => h.1)); have n1_ := Aside0.mk (Kd.R_mono (Kd.R_keep (IsS135.apart (show IsS135 w _ gb195 x196000_2 x196001_2 from by repeat (first | (with_reducible first | exact HI195.out | apply IsS135.alloc | apply IsS135.drewN | apply IsS135.drew | apply IsS135.set_0 | apply IsS135.set_1) | exact HI195.out)) (Rq HO_10.out) (by decide)) hk (fun _ h => h.2)) (fun _ h => h.1)); have n2_ := Aside0.mk (hb); have n3_ := Aside0.mk (hi); clear HO_8; clear HO_10; clear HB; clear HI195; have HO_8 := n0_; have HO_10 := n1_; have HB := n2_; have HI195 := n3_; clear n0_ n1_ n2_ n3_; (try clear hb); (try clear hb2); (try clear hk); (try clear hi)) | ((with_reducible refine gate_dst (N := 12) rfl ?_); refine box_event ?hg (N := 12) ?hd (cs := #[.string (⟨#[]⟩ : ByteArray), .int .i64 0, .string (⟨#[]⟩ : ByteArray)]) (t := 46) ?hr ?_; (case hd => rfl); (case hg => rfl); (case hr => first | (go_simp; done) | (go_simp; rfl)); intro gb210 hg w25 hbox hb; have n0_ := Aside0.mk (Kd.S_below (Kd.S_elderB (Sq HO_8.out) gb210 (Nat.le_of_eq hg.symm)) hb); have n1_ := Aside0.mk (Kd.R_below (Kd.R_elderB (Rq HO_10.out) gb210 (Nat.le_of_eq hg.symm)) hb); have n2_ := Aside0.mk (IsS135.below (by repeat (first | (with_reducible first | exact HI195.out | apply IsS135.alloc | apply IsS135.drewN | apply IsS135.drew | apply IsS135.set_0 | apply IsS135.set_1) | exact HI195.out)) hb); have n3_ := Aside0.mk (below_step (by repeat (first | (with_reducible first | exact HB.out | apply below_alloc | apply pw_below_drewN | apply below_drew1 | refine below_set ?_ (IsS135.ge HI195.out)) | exact HB.out)) hb); have n4_ := Aside0.mk (hbox); have n5_ := Aside0.mk ((by rw [hg]; exact (below_size (by repeat (first | (with_reducible first | exact HB.out | apply below_alloc | apply pw_below_drewN | apply below_drew1 | refine below_set ?_ (IsS135.ge HI195.out)) | exact HB.out))) : w.heap.size ≤ gb210)); have n6_ := Aside0.mk ((by rw [hg]; exact (below_size (by repeat (first | (with_reducible first | exact HB.out | apply below_alloc | apply pw_below_drewN | apply below_drew1 | refine below_set ?_ (IsS135.ge HI195.out)) | exact HB.out))) : w.heap.size ≤ gb210)); have n7_ := Aside0.mk ((by rw [hg]; exact Nat.ne_of_lt (IsS135.lt (show IsS135 w _ gb195 t208 t209 from by repeat (first | (with_reducible first | exact HI195.out | apply IsS135.alloc | apply IsS135.drewN | apply IsS135.drew | apply IsS135.set_0 | apply IsS135.set_1) | exact HI195.out))) : gb195 ≠ gb210)); have n8_ := Aside0.mk ((by rw [hg]; exact Nat.ne_of_gt (IsS135.lt (show IsS135 w _ gb195 t208 t209 from by repeat (first | (with_reducible first | exact HI195.out | apply IsS135.alloc | apply IsS135.drewN | apply IsS135.drew | apply IsS135.set_0 | apply IsS135.set_1) | exact HI195.out))) : gb210 ≠ gb195)); clear HO_8; clear HO_10; clear HI195; clear HB; have HO_8 := n0_; have HO_10 := n1_; have HI195 := n2_; have HB := n3_; have BK210 := n4_; have GW210 := n5_; have GE210 := n6_; have NB195_210 := n7_; have NB210_195 := n8_; clear n0_ n1_ n2_ n3_ n4_ n5_ n6_ n7_ n8_; clear hb hbox hg; have hnb26 := NB210_195.out; have hnc26 := NB195_210.out; have hcz27_0 : w25.cell? ⟨gb210, 0, none⟩ = some (.string (⟨#[]⟩ : ByteArray)) := (blk_cell BK210.out 0).trans rfl; have hcz27_1 : w25.cell? ⟨gb210, 1, none⟩ = some (.int .i64 0) := (blk_cell BK210.out 1).trans rfl; have hcz27_2 : w25.cell? ⟨gb210, 2, none⟩ = some (.string (⟨#[]⟩ : ByteArray)) := (blk_cell BK210.out 2).trans rfl; have hfz27_0 := blk_frozen BK210.out 0; have hfz27_1 := blk_frozen BK210.out 1; have hfz27_2 := blk_frozen BK210.out 2) | ((with_reducible refine gate_builtin (b := .append) (xs := #[.tmp 40, .tmp 42]) rfl ?_); at_builtin; refine Kd.R_append k46 (w0 := w) w.heap.size rfl (.tmp 40) (.tmp 42) 23 46 (.agg #[(.string ⟨#[]⟩), (.int .i64 0), (.string ⟨#[]⟩)]) 40 rfl Tryd.underlying23 info46 rfl (by decide) (by omega) u10 x10_2 (⟨t204, t205, t206⟩ : S46) [.string t204, .int .i64 t205, .string t206] (fun k_ => k_ ≠ gb210) (fun _ => False) rfl (by first | (go_simp; done) | (go_simp; rfl)) ?aP (fun _ hk => hk.elim) ?aF ?aO ?aB ?aS ?aL ?_; (case aP => exact k46_mkM _ _ _ (⟨t204, t205, t206⟩ : S46)); (case aB => exact (by repeat (first | (with_reducible first | exact HB.out | apply below_alloc | apply pw_below_drewN | apply below_drew1 | refine below_set ?_ (IsS135.ge HI195.out) | refine below_set ?_ GE210.out) | exact HB.out))); (case aF => exact (fun k_ hk => Kd.freshB (g := gb210) (o := .cells #[.string t204, .int .i64 t205, .string t206] 46 (0, 0)) (by (with_reducible repeat (first | refine blk_drewN ?_ _ | refine blk_drew ?_ | refine blk_alloc ?_ _)); refine blk_put (cs := #[.string t204, .int .i64 t205, .string (⟨#[]⟩ : ByteArray)]) ?_ 2 _ rfl; (with_reducible repeat (first | refine blk_drewN ?_ _ | refine blk_drew ?_ | refine blk_alloc ?_ _)); refine blk_put (cs := #[.string t204, .int .i64 0, .string (⟨#[]⟩ : ByteArray)]) ?_ 1 _ rfl; (with_reducible repeat (first | refine blk_drewN ?_ _ | refine blk_drew ?_ | refine blk_alloc ?_ _)); refine blk_put (cs := #[.string (⟨#[]⟩ : ByteArray), .int .i64 0, .string (⟨#[]⟩ : ByteArray)]) ?_ 0 _ rfl; (with_reducible repeat (first | refine blk_drewN ?_ _ | refine blk_drew ?_ | refine blk_alloc ?_ _)); exact BK210.out) k_ hk)); (case aO => exact (by (with_reducible repeat (first | apply Kd.R_alloc | apply Kd.R_drewN | apply Kd.R_drew)); exact Kd.R_mono (Kd.R_far (p := ⟨gb210, 2, none⟩) (Kd.R_far (p := ⟨gb210, 1, none⟩) (Kd.R_far (p := ⟨gb210, 0, none⟩) (Kd.R_mono HO_10.out (fun k_ hk => (⟨hk, hk.2⟩ : _ ∧ k_ ≠ gb210))) (fun _ hk => hk.2) (.string t204)) (fun _ hk => hk.2) (.int .i64 t205)) (fun _ hk => hk.2) (.string t206)) (fun _ hk => hk.1.2))); (case aS => exact (below_size (by repeat (first | (with_reducible first | exact HB.out | apply below_alloc | apply pw_below_drewN | apply below_drew1 | refine below_set ?_ (IsS135.ge HI195.out) | refine below_set ?_ GE210.out) | exact HB.out)))); (case aL => have := LMc15.out; omega); intro v212 w28 ho hb hg hat; rw [← Ny211.out] at ho; have n0_ := Aside0.mk (Kd.S_after (ok := (fun k_ => k_ ≠ gb210)) (by (with_reducible repeat (first | apply Kd.S_alloc | apply Kd.S_drewN | apply Kd.S_drew)); exact Kd.S_mono (Kd.S_far (p := ⟨gb210, 2, none⟩) (Kd.S_far (p := ⟨gb210, 1, none⟩) (Kd.S_far (p := ⟨gb210, 0, none⟩) (Kd.S_mono HO_8.out (fun k_ hk => (⟨hk, hk.2⟩ : _ ∧ k_ ≠ gb210))) (fun _ hk => hk.2) (.string t204)) (fun _ hk => hk.2) (.int .i64 t205)) (fun _ hk => hk.2) (.string t206)) (fun _ hk => ⟨hk.1.2, hk.1.1⟩)) hg hat); have n1_ := Aside0.mk (IsS135.grown (show IsS135 w _ gb195 t208 t209 from by repeat (first | (with_reducible first | exact HI195.out | apply IsS135.alloc | apply IsS135.drewN | apply IsS135.drew | apply IsS135.set_0 | apply IsS135.set_1 | refine IsS135.far ?_ NB195_210.out _) | exact HI195.out)) hg (IsS135.own_ne HI195.out HO_10.out (by decide))); have n2_ := Aside0.mk (blk_grown (g := gb210) (o := .cells #[.string t204, .int .i64 t205, .string t206] 46 (0, 0)) (by (with_reducible repeat (first | refine blk_drewN ?_ _ | refine blk_drew ?_ | refine blk_alloc ?_ _)); refine blk_put (cs := #[.string t204, .int .i64 t205, .string (⟨#[]⟩ : ByteArray)]) ?_ 2 _ rfl; (with_reducible repeat (first | refine blk_drewN ?_ _ | refine blk_drew ?_ | refine blk_alloc ?_ _)); refine blk_put (cs := #[.string t204, .int .i64 0, .string (⟨#[]⟩ : ByteArray)]) ?_ 1 _ rfl; (with_reducible repeat (first | refine blk_drewN ?_ _ | refine blk_drew ?_ | refine blk_alloc ?_ _)); refine blk_put (cs := #[.string (⟨#[]⟩ : ByteArray), .int .i64 0, .string (⟨#[]⟩ : ByteArray)]) ?_ 0 _ rfl; (with_reducible repeat (first | refine blk_drewN ?_ _ | refine blk_drew ?_ | refine blk_alloc ?_ _)); exact BK210.out) hg (Kd.R_away HO_10.out (fun _ hk => hk.2))); have n3_ := Aside0.mk (hb); have n4_ := Aside0.mk (ho); clear HO_8; clear HI195; clear BK210; clear HB; clear HO_10; have HO_8 := n0_; have HI195 := n1_; have BK210 := n2_; have HB := n3_; have HO213 := n4_; clear n0_ n1_ n2_ n3_ n4_; clear ho hb hg hat))
           repeat (go_quiet (first | (go_at_call 108; (with_reducible refine (relation_reader_relation.calls k2 gb195 x196000_2 x196001_2 t204 t205 t206 t207 t208 t209 w _ ?side1 ?side2 ?side3 A13.out).mono ?_); (case side1 => repeat (first | (with_reducible first | exact HI195.out | apply IsS135.alloc | apply IsS135.drewN | apply IsS135.drew | apply IsS135.set_0 | apply IsS135.set_1) | exact HI195.out)); (case side2 => repeat (first | (with_reducible first | exact HB.out | apply below_alloc | apply pw_below_drewN | apply below_drew1 | refine below_set ?_ (IsS135.ge HI195.out)) | exact HB.out)); (case side3 => exact HG.out); rintro e w24 ⟨rfl, hi, hb, hk⟩; have n0_ := Aside0.mk (Kd.S_mono (Kd.S_keep (IsS135.apartS (show IsS135 w _ gb195 x196000_2 x196001_2 from by repeat (first | (with_reducible first | exact HI195.out | apply IsS135.alloc | apply IsS135.drewN | apply IsS135.drew | apply IsS135.set_0 | apply IsS135.set_1) | exact HI195.out)) (Sq HO_8.out) (by decide)) hk (fun _ h => h.2)) (fun _ h => h.1)); have n1_ := Aside0.mk (Kd.R_mono (Kd.R_keep (IsS135.apart (show IsS135 w _ gb195 x196000_2 x196001_2 from by repeat (first | (with_reducible first | exact HI195.out | apply IsS135.alloc | apply IsS135.drewN | apply IsS135.drew | apply IsS135.set_0 | apply IsS135.set_1) | exact HI195.out)) (Rq HO_10.out) (by decide)) hk (fun _ h => h.2)) (fun _ h => h.1)); have n2_ := Aside0.mk (hb); have n3_ := Aside0.mk (hi); clear HO_8; clear HO_10; clear HB; clear HI195; have HO_8 := n0_; have HO_10 := n1_; have HB := n2_; have HI195 := n3_; clear n0_ n1_ n2_ n3_; (try clear hb); (try clear hb2); (try clear hk); (try clear hi)) | ((with_reducible refine gate_dst (N := 12) rfl ?_); refine box_event ?hg (N := 12) ?hd (cs := #[.string (⟨#[]⟩ : ByteArray), .int .i64 0, .string (⟨#[]⟩ : ByteArray)]) (t := 46) ?hr ?_; (case hd => rfl); (case hg => rfl); (case hr => first | (go_simp; done) | (go_simp; rfl)); intro gb210 hg w25 hbox hb; have n0_ := Aside0.mk (Kd.S_below (Kd.S_elderB (Sq HO_8.out) gb210 (Nat.le_of_eq hg.symm)) hb); have n1_ := Aside0.mk (Kd.R_below (Kd.R_elderB (Rq HO_10.out) gb210 (Nat.le_of_eq hg.symm)) hb); have n2_ := Aside0.mk (IsS135.below (by repeat (first | (with_reducible first | exact HI195.out | apply IsS135.alloc | apply IsS135.drewN | apply IsS135.drew | apply IsS135.set_0 | apply IsS135.set_1) | exact HI195.out)) hb); have n3_ := Aside0.mk (below_step (by repeat (first | (with_reducible first | exact HB.out | apply below_alloc | apply pw_below_drewN | apply below_drew1 | refine below_set ?_ (IsS135.ge HI195.out)) | exact HB.out)) hb); have n4_ := Aside0.mk (hbox); have n5_ := Aside0.mk ((by rw [hg]; exact (below_size (by repeat (first | (with_reducible first | exact HB.out | apply below_alloc | apply pw_below_drewN | apply below_drew1 | refine below_set ?_ (IsS135.ge HI195.out)) | exact HB.out))) : w.heap.size ≤ gb210)); have n6_ := Aside0.mk ((by rw [hg]; exact (below_size (by repeat (first | (with_reducible first | exact HB.out | apply below_alloc | apply pw_below_drewN | apply below_drew1 | refine below_set ?_ (IsS135.ge HI195.out)) | exact HB.out))) : w.heap.size ≤ gb210)); have n7_ := Aside0.mk ((by rw [hg]; exact Nat.ne_of_lt (IsS135.lt (show IsS135 w _ gb195 t208 t209 from by repeat (first | (with_reducible first | exact HI195.out | apply IsS135.alloc | apply IsS135.drewN | apply IsS135.drew | apply IsS135.set_0 | apply IsS135.set_1) | exact HI195.out))) : gb195 ≠ gb210)); have n8_ := Aside0.mk ((by rw [hg]; exact Nat.ne_of_gt (IsS135.lt (show IsS135 w _ gb195 t208 t209 from by repeat (first | (with_reducible first | exact HI195.out | apply IsS135.alloc | apply IsS135.drewN | apply IsS135.drew | apply IsS135.set_0 | apply IsS135.set_1) | exact HI195.out))) : gb210 ≠ gb195)); clear HO_8; clear HO_10; clear HI195; clear HB; have HO_8 := n0_; have HO_10 := n1_; have HI195 := n2_; have HB := n3_; have BK210 := n4_; have GW210 := n5_; have GE210 := n6_; have NB195_210 := n7_; have NB210_195 := n8_; clear n0_ n1_ n2_ n3_ n4_ n5_ n6_ n7_ n8_; clear hb hbox hg; have hnb26 := NB210_195.out; have hnc26 := NB195_210.out; have hcz27_0 : w25.cell? ⟨gb210, 0, none⟩ = some (.string (⟨#[]⟩ : ByteArray)) := (blk_cell BK210.out 0).trans rfl; have hcz27_1 : w25.cell? ⟨gb210, 1, none⟩ = some (.int .i64 0) := (blk_cell BK210.out 1).trans rfl; have hcz27_2 : w25.cell? ⟨gb210, 2, none⟩ = some (.string (⟨#[]⟩ : ByteArray)) := (blk_cell BK210.out 2).trans rfl; have hfz27_0 := blk_frozen BK210.out 0; have hfz27_1 := blk_frozen BK210.out 1; have hfz27_2 := blk_frozen BK210.out 2) | ((with_reducible refine gate_builtin (b := .append) (xs := #[.tmp 40, .tmp 42]) rfl ?_); at_builtin; refine Kd.R_append k46 (w0 := w) w.heap.size rfl (.tmp 40) (.tmp 42) 23 46 (.agg #[(.string ⟨#[]⟩), (.int .i64 0), (.string ⟨#[]⟩)]) 40 rfl Tryd.underlying23 info46 rfl (by decide) (by omega) u10 x10_2 (⟨t204, t205, t206⟩ : S46) [.string t204, .int .i64 t205, .string t206] (fun k_ => k_ ≠ gb210) (fun _ => False) rfl (by first | (go_simp; done) | (go_simp; rfl)) ?aP (fun _ hk => hk.elim) ?aF ?aO ?aB ?aS ?aL ?_; (case aP => exact k46_mkM _ _ _ (⟨t204, t205, t206⟩ : S46)); (case aB => exact (by repeat (first | (with_reducible first | exact HB.out | apply below_alloc | apply pw_below_drewN | apply below_drew1 | refine below_set ?_ (IsS135.ge HI195.out) | refine below_set ?_ GE210.out) | exact HB.out))); (case aF => exact (fun k_ hk => Kd.freshB (g := gb210) (o := .cells #[.string t204, .int .i64 t205, .string t206] 46 (0, 0)) (by (with_reducible repeat (first | refine blk_drewN ?_ _ | refine blk_drew ?_ | refine blk_alloc ?_ _)); refine blk_put (cs := #[.string t204, .int .i64 t205, .string (⟨#[]⟩ : ByteArray)]) ?_ 2 _ rfl; (with_reducible repeat (first | refine blk_drewN ?_ _ | refine blk_drew ?_ | refine blk_alloc ?_ _)); refine blk_put (cs := #[.string t204, .int .i64 0, .string (⟨#[]⟩ : ByteArray)]) ?_ 1 _ rfl; (with_reducible repeat (first | refine blk_drewN ?_ _ | refine blk_drew ?_ | refine blk_alloc ?_ _)); refine blk_put (cs := #[.string (⟨#[]⟩ : ByteArray), .int .i64 0, .string (⟨#[]⟩ : ByteArray)]) ?_ 0 _ rfl; (with_reducible repeat (first | refine blk_drewN ?_ _ | refine blk_drew ?_ | refine blk_alloc ?_ _)); exact BK210.out) k_ hk)); (case aO => exact (by (with_reducible repeat (first | apply Kd.R_alloc | apply Kd.R_drewN | apply Kd.R_drew)); exact Kd.R_mono (Kd.R_far (p := ⟨gb210, 2, none⟩) (Kd.R_far (p := ⟨gb210, 1, none⟩) (Kd.R_far (p := ⟨gb210, 0, none⟩) (Kd.R_mono HO_10.out (fun k_ hk => (⟨hk, hk.2⟩ : _ ∧ k_ ≠ gb210))) (fun _ hk => hk.2) (.string t204)) (fun _ hk => hk.2) (.int .i64 t205)) (fun _ hk => hk.2) (.string t206)) (fun _ hk => hk.1.2))); (case aS => exact (below_size (by repeat (first | (with_reducible first | exact HB.out | apply below_alloc | apply pw_below_drewN | apply below_drew1 | refine below_set ?_ (IsS135.ge HI195.out) | refine below_set ?_ GE210.out) | exact HB.out)))); (case aL => have := LMc15.out; omega); intro v212 w28 ho hb hg hat; rw [← Ny211.out] at ho; have n0_ := Aside0.mk (Kd.S_after (ok := (fun k_ => k_ ≠ gb210)) (by (with_reducible repeat (first | apply Kd.S_alloc | apply Kd.S_drewN | apply Kd.S_drew)); exact Kd.S_mono (Kd.S_far (p := ⟨gb210, 2, none⟩) (Kd.S_far (p := ⟨gb210, 1, none⟩) (Kd.S_far (p := ⟨gb210, 0, none⟩) (Kd.S_mono HO_8.out (fun k_ hk => (⟨hk, hk.2⟩ : _ ∧ k_ ≠ gb210))) (fun _ hk => hk.2) (.string t204)) (fun _ hk => hk.2) (.int .i64 t205)) (fun _ hk => hk.2) (.string t206)) (fun _ hk => ⟨hk.1.2, hk.1.1⟩)) hg hat); have n1_ := Aside0.mk (IsS135.grown (show IsS135 w _ gb195 t208 t209 from by repeat (first | (with_reducible first | exact HI195.out | apply IsS135.alloc | apply IsS135.drewN | apply IsS135.drew | apply IsS135.set_0 | apply IsS135.set_1 | refine IsS135.far ?_ NB195_210.out _) | exact HI195.out)) hg (IsS135.own_ne HI195.out HO_10.out (by decide))); have n2_ := Aside0.mk (blk_grown (g := gb210) (o := .cells #[.string t204, .int .i64 t205, .string t206] 46 (0, 0)) (by (with_reducible repeat (first | refine blk_drewN ?_ _ | refine blk_drew ?_ | refine blk_alloc ?_ _)); refine blk_put (cs := #[.string t204, .int .i64 t205, .string (⟨#[]⟩ : ByteArray)]) ?_ 2 _ rfl; (with_reducible repeat (first | refine blk_drewN ?_ _ | refine blk_drew ?_ | refine blk_alloc ?_ _)); refine blk_put (cs := #[.string t204, .int .i64 0, .string (⟨#[]⟩ : ByteArray)]) ?_ 1 _ rfl; (with_reducible repeat (first | refine blk_drewN ?_ _ | refine blk_drew ?_ | refine blk_alloc ?_ _)); refine blk_put (cs := #[.string (⟨#[]⟩ : ByteArray), .int .i64 0, .string (⟨#[]⟩ : ByteArray)]) ?_ 0 _ rfl; (with_reducible repeat (first | refine blk_drewN ?_ _ | refine blk_drew ?_ | refine blk_alloc ?_ _)); exact BK210.out) hg (Kd.R_away HO_10.out (fun _ hk => hk.2))); have n3_ := Aside0.mk (hb); have n4_ := Aside0.mk (ho); clear HO_8; clear HI195; clear BK210; clear HB; clear HO_10; have HO_8 := n0_; have HI195 := n1_; have BK210 := n2_; have HB := n3_; have HO213 := n4_; clear n0_ n1_ n2_ n3_ n4_; clear ho hb hg hat)); try go_wp2_with (first | (go_at_call 108; (with_reducible refine (relation_reader_relation.calls k2 gb195 x196000_2 x196001_2 t204 t205 t206 t207 t208 t209 w _ ?side1 ?side2 ?side3 A13.out).mono ?_); (case side1 => repeat (first | (with_reducible first | exact HI195.out | apply IsS135.alloc | apply IsS135.drewN | apply IsS135.drew | apply IsS135.set_0 | apply IsS135.set_1) | exact HI195.out)); (case side2 => repeat (first | (with_reducible first | exact HB.out | apply below_alloc | apply pw_below_drewN | apply below_drew1 | refine below_set ?_ (IsS135.ge HI195.out)) | exact HB.out)); (case side3 => exact HG.out); rintro e w24 ⟨rfl, hi, hb, hk⟩; have n0_ := Aside0.mk (Kd.S_mono (Kd.S_keep (IsS135.apartS (show IsS135 w _ gb195 x196000_2 x196001_2 from by repeat (first | (with_reducible first | exact HI195.out | apply IsS135.alloc | apply IsS135.drewN | apply IsS135.drew | apply IsS135.set_0 | apply IsS135.set_1) | exact HI195.out)) (Sq HO_8.out) (by decide)) hk (fun _ h => h.2)) (fun _ h => h.1)); have n1_ := Aside0.mk (Kd.R_mono (Kd.R_keep (IsS135.apart (show IsS135 w _ gb195 x196000_2 x196001_2 from by repeat (first | (with_reducible first | exact HI195.out | apply IsS135.alloc | apply IsS135.drewN | apply IsS135.drew | apply IsS135.set_0 | apply IsS135.set_1) | exact HI195.out)) (Rq HO_10.out) (by decide)) hk (fun _ h => h.2)) (fun _ h => h.1)); have n2_ := Aside0.mk (hb); have n3_ := Aside0.mk (hi); clear HO_8; clear HO_10; clear HB; clear HI195; have HO_8 := n0_; have HO_10 := n1_; have HB := n2_; have HI195 := n3_; clear n0_ n1_ n2_ n3_; (try clear hb); (try clear hb2); (try clear hk); (try clear hi)) | ((with_reducible refine gate_dst (N := 12) rfl ?_); refine box_event ?hg (N := 12) ?hd (cs := #[.string (⟨#[]⟩ : ByteArray), .int .i64 0, .string (⟨#[]⟩ : ByteArray)]) (t := 46) ?hr ?_; (case hd => rfl); (case hg => rfl); (case hr => first | (go_simp; done) | (go_simp; rfl)); intro gb210 hg w25 hbox hb; have n0_ := Aside0.mk (Kd.S_below (Kd.S_elderB (Sq HO_8.out) gb210 (Nat.le_of_eq hg.symm)) hb); have n1_ := Aside0.mk (Kd.R_below (Kd.R_elderB (Rq HO_10.out) gb210 (Nat.le_of_eq hg.symm)) hb); have n2_ := Aside0.mk (IsS135.below (by repeat (first | (with_reducible first | exact HI195.out | apply IsS135.alloc | apply IsS135.drewN | apply IsS135.drew | apply IsS135.set_0 | apply IsS135.set_1) | exact HI195.out)) hb); have n3_ := Aside0.mk (below_step (by repeat (first | (with_reducible first | exact HB.out | apply below_alloc | apply pw_below_drewN | apply below_drew1 | refine below_set ?_ (IsS135.ge HI195.out)) | exact HB.out)) hb); have n4_ := Aside0.mk (hbox); have n5_ := Aside0.mk ((by rw [hg]; exact (below_size (by repeat (first | (with_reducible first | exact HB.out | apply below_alloc | apply pw_below_drewN | apply below_drew1 | refine below_set ?_ (IsS135.ge HI195.out)) | exact HB.out))) : w.heap.size ≤ gb210)); have n6_ := Aside0.mk ((by rw [hg]; exact (below_size (by repeat (first | (with_reducible first | exact HB.out | apply below_alloc | apply pw_below_drewN | apply below_drew1 | refine below_set ?_ (IsS135.ge HI195.out)) | exact HB.out))) : w.heap.size ≤ gb210)); have n7_ := Aside0.mk ((by rw [hg]; exact Nat.ne_of_lt (IsS135.lt (show IsS135 w _ gb195 t208 t209 from by repeat (first | (with_reducible first | exact HI195.out | apply IsS135.alloc | apply IsS135.drewN | apply IsS135.drew | apply IsS135.set_0 | apply IsS135.set_1) | exact HI195.out))) : gb195 ≠ gb210)); have n8_ := Aside0.mk ((by rw [hg]; exact Nat.ne_of_gt (IsS135.lt (show IsS135 w _ gb195 t208 t209 from by repeat (first | (with_reducible first | exact HI195.out | apply IsS135.alloc | apply IsS135.drewN | apply IsS135.drew | apply IsS135.set_0 | apply IsS135.set_1) | exact HI195.out))) : gb210 ≠ gb195)); clear HO_8; clear HO_10; clear HI195; clear HB; have HO_8 := n0_; have HO_10 := n1_; have HI195 := n2_; have HB := n3_; have BK210 := n4_; have GW210 := n5_; have GE210 := n6_; have NB195_210 := n7_; have NB210_195 := n8_; clear n0_ n1_ n2_ n3_ n4_ n5_ n6_ n7_ n8_; clear hb hbox hg; have hnb26 := NB210_195.out; have hnc26 := NB195_210.out; have hcz27_0 : w25.cell? ⟨gb210, 0, none⟩ = some (.string (⟨#[]⟩ : ByteArray)) := (blk_cell BK210.out 0).trans rfl; have hcz27_1 : w25.cell? ⟨gb210, 1, none⟩ = some (.int .i64 0) := (blk_cell BK210.out 1).trans rfl; have hcz27_2 : w25.cell? ⟨gb210, 2, none⟩ = some (.string (⟨#[]⟩ : ByteArray)) := (blk_cell BK210.out 2).trans rfl; have hfz27_0 := blk_frozen BK210.out 0; have hfz27_1 := blk_frozen BK210.out 1; have hfz27_2 := blk_frozen BK210.out 2) | ((with_reducible refine gate_builtin (b := .append) (xs := #[.tmp 40, .tmp 42]) rfl ?_); at_builtin; refine Kd.R_append k46 (w0 := w) w.heap.size rfl (.tmp 40) (.tmp 42) 23 46 (.agg #[(.string ⟨#[]⟩), (.int .i64 0), (.string ⟨#[]⟩)]) 40 rfl Tryd.underlying23 info46 rfl (by decide) (by omega) u10 x10_2 (⟨t204, t205, t206⟩ : S46) [.string t204, .int .i64 t205, .string t206] (fun k_ => k_ ≠ gb210) (fun _ => False) rfl (by first | (go_simp; done) | (go_simp; rfl)) ?aP (fun _ hk => hk.elim) ?aF ?aO ?aB ?aS ?aL ?_; (case aP => exact k46_mkM _ _ _ (⟨t204, t205, t206⟩ : S46)); (case aB => exact (by repeat (first | (with_reducible first | exact HB.out | apply below_alloc | apply pw_below_drewN | apply below_drew1 | refine below_set ?_ (IsS135.ge HI195.out) | refine below_set ?_ GE210.out) | exact HB.out))); (case aF => exact (fun k_ hk => Kd.freshB (g := gb210) (o := .cells #[.string t204, .int .i64 t205, .string t206] 46 (0, 0)) (by (with_reducible repeat (first | refine blk_drewN ?_ _ | refine blk_drew ?_ | refine blk_alloc ?_ _)); refine blk_put (cs := #[.string t204, .int .i64 t205, .string (⟨#[]⟩ : ByteArray)]) ?_ 2 _ rfl; (with_reducible repeat (first | refine blk_drewN ?_ _ | refine blk_drew ?_ | refine blk_alloc ?_ _)); refine blk_put (cs := #[.string t204, .int .i64 0, .string (⟨#[]⟩ : ByteArray)]) ?_ 1 _ rfl; (with_reducible repeat (first | refine blk_drewN ?_ _ | refine blk_drew ?_ | refine blk_alloc ?_ _)); refine blk_put (cs := #[.string (⟨#[]⟩ : ByteArray), .int .i64 0, .string (⟨#[]⟩ : ByteArray)]) ?_ 0 _ rfl; (with_reducible repeat (first | refine blk_drewN ?_ _ | refine blk_drew ?_ | refine blk_alloc ?_ _)); exact BK210.out) k_ hk)); (case aO => exact (by (with_reducible repeat (first | apply Kd.R_alloc | apply Kd.R_drewN | apply Kd.R_drew)); exact Kd.R_mono (Kd.R_far (p := ⟨gb210, 2, none⟩) (Kd.R_far (p := ⟨gb210, 1, none⟩) (Kd.R_far (p := ⟨gb210, 0, none⟩) (Kd.R_mono HO_10.out (fun k_ hk => (⟨hk, hk.2⟩ : _ ∧ k_ ≠ gb210))) (fun _ hk => hk.2) (.string t204)) (fun _ hk => hk.2) (.int .i64 t205)) (fun _ hk => hk.2) (.string t206)) (fun _ hk => hk.1.2))); (case aS => exact (below_size (by repeat (first | (with_reducible first | exact HB.out | apply below_alloc | apply pw_below_drewN | apply below_drew1 | refine below_set ?_ (IsS135.ge HI195.out) | refine below_set ?_ GE210.out) | exact HB.out)))); (case aL => have := LMc15.out; omega); intro v212 w28 ho hb hg hat; rw [← Ny211.out] at ho; have n0_ := Aside0.mk (Kd.S_after (ok := (fun k_ => k_ ≠ gb210)) (by (with_reducible repeat (first | apply Kd.S_alloc | apply Kd.S_drewN | apply Kd.S_drew)); exact Kd.S_mono (Kd.S_far (p := ⟨gb210, 2, none⟩) (Kd.S_far (p := ⟨gb210, 1, none⟩) (Kd.S_far (p := ⟨gb210, 0, none⟩) (Kd.S_mono HO_8.out (fun k_ hk => (⟨hk, hk.2⟩ : _ ∧ k_ ≠ gb210))) (fun _ hk => hk.2) (.string t204)) (fun _ hk => hk.2) (.int .i64 t205)) (fun _ hk => hk.2) (.string t206)) (fun _ hk => ⟨hk.1.2, hk.1.1⟩)) hg hat); have n1_ := Aside0.mk (IsS135.grown (show IsS135 w _ gb195 t208 t209 from by repeat (first | (with_reducible first | exact HI195.out | apply IsS135.alloc | apply IsS135.drewN | apply IsS135.drew | apply IsS135.set_0 | apply IsS135.set_1 | refine IsS135.far ?_ NB195_210.out _) | exact HI195.out)) hg (IsS135.own_ne HI195.out HO_10.out (by decide))); have n2_ := Aside0.mk (blk_grown (g := gb210) (o := .cells #[.string t204, .int .i64 t205, .string t206] 46 (0, 0)) (by (with_reducible repeat (first | refine blk_drewN ?_ _ | refine blk_drew ?_ | refine blk_alloc ?_ _)); refine blk_put (cs := #[.string t204, .int .i64 t205, .string (⟨#[]⟩ : ByteArray)]) ?_ 2 _ rfl; (with_reducible repeat (first | refine blk_drewN ?_ _ | refine blk_drew ?_ | refine blk_alloc ?_ _)); refine blk_put (cs := #[.string t204, .int .i64 0, .string (⟨#[]⟩ : ByteArray)]) ?_ 1 _ rfl; (with_reducible repeat (first | refine blk_drewN ?_ _ | refine blk_drew ?_ | refine blk_alloc ?_ _)); refine blk_put (cs := #[.string (⟨#[]⟩ : ByteArray), .int .i64 0, .string (⟨#[]⟩ : ByteArray)]) ?_ 0 _ rfl; (with_reducible repeat (first | refine blk_drewN ?_ _ | refine blk_drew ?_ | refine blk_alloc ?_ _)); exact BK210.out) hg (Kd.R_away HO_10.out (fun _ hk => hk.2))); have n3_ := Aside0.mk (hb); have n4_ := Aside0.mk (ho); clear HO_8; clear HI195; clear BK210; clear HB; clear HO_10; have HO_8 := n0_; have HI195 := n1_; have BK210 := n2_; have HB := n3_; have HO213 := n4_; clear n0_ n1_ n2_ n3_ n4_; clear ho hb hg hat)))
           go_roundg k2
           case measure => have := HK1.out; have := HK2.out; omega
           case rel => exact ⟨(y211), (false), (t208), (t209), (by first | rfl | (simp; done) | (simp [*]; done)), H', ⟨by have := HK1.out; have := HK2.out; omega⟩, ⟨by (with_reducible repeat (first | apply Kd.S_alloc | apply Kd.S_drewN | apply Kd.S_drew)); exact Kd.S_mono HO_8.out (fun _ hk => hk.2)⟩, ⟨by (with_reducible repeat (first | apply Kd.R_alloc | apply Kd.R_drewN | apply Kd.R_drew)); exact Kd.R_mono HO213.out (fun _ hk => trivial)⟩, ⟨by repeat (first | (with_reducible first | exact HI195.out | apply IsS135.alloc | apply IsS135.drewN | apply IsS135.drew | apply IsS135.set_0 | apply IsS135.set_1 | refine IsS135.far ?_ NB195_210.out _) | exact HI195.out)⟩, ⟨by repeat (first | (with_reducible first | exact HB.out | apply below_alloc | apply pw_below_drewN | apply below_drew1 | refine below_set ?_ (IsS135.ge HI195.out) | refine below_set ?_ GE210.out) | exact HB.out)⟩⟩
         ·rw [if_neg c15] at H
          exact absurd H (by simp)
        ·rw [if_neg c14] at H
         have c14b0 : (t207 == 0) = false := beq_eq_false_iff_ne.mpr c14
         have c14b1 : (t207 != 0) = true := bne_iff_ne.mpr c14
         simp only [Option.some.injEq, Prod.mk.injEq] at H
         obtain ⟨rfl, rfl, rfl⟩ := H
         go_wp2_with (first | (go_at_call 108; (with_reducible refine (relation_reader_relation.calls k2 gb195 x196000_2 x196001_2 t204 t205 t206 t207 t208 t209 w _ ?side1 ?side2 ?side3 A13.out).mono ?_); (case side1 => repeat (first | (with_reducible first | exact HI195.out | apply IsS135.alloc | apply IsS135.drewN | apply IsS135.drew | apply IsS135.set_0 | apply IsS135.set_1) | exact HI195.out)); (case side2 => repeat (first | (with_reducible first | exact HB.out | apply below_alloc | apply pw_below_drewN | apply below_drew1 | refine below_set ?_ (IsS135.ge HI195.out)) | exact HB.out)); (case side3 => exact HG.out); rintro e w29 ⟨rfl, hi, hb, hk⟩; have n0_ := Aside0.mk (Kd.S_mono (Kd.S_keep (IsS135.apartS (show IsS135 w _ gb195 x196000_2 x196001_2 from by repeat (first | (with_reducible first | exact HI195.out | apply IsS135.alloc | apply IsS135.drewN | apply IsS135.drew | apply IsS135.set_0 | apply IsS135.set_1) | exact HI195.out)) (Sq HO_8.out) (by decide)) hk (fun _ h => h.2)) (fun _ h => h.1)); have n1_ := Aside0.mk (Kd.R_mono (Kd.R_keep (IsS135.apart (show IsS135 w _ gb195 x196000_2 x196001_2 from by repeat (first | (with_reducible first | exact HI195.out | apply IsS135.alloc | apply IsS135.drewN | apply IsS135.drew | apply IsS135.set_0 | apply IsS135.set_1) | exact HI195.out)) (Rq HO_10.out) (by decide)) hk (fun _ h => h.2)) (fun _ h => h.1)); have n2_ := Aside0.mk (hb); have n3_ := Aside0.mk (hi); clear HO_8; clear HO_10; clear HB; clear HI195; have HO_8 := n0_; have HO_10 := n1_; have HB := n2_; have HI195 := n3_; clear n0_ n1_ n2_ n3_; (try clear hb); (try clear hb2); (try clear hk); (try clear hi)) | ((with_reducible refine gate_dst (N := 12) rfl ?_); refine box_event ?hg (N := 12) ?hd (cs := #[.string (⟨#[]⟩ : ByteArray), .int .i64 0, .string (⟨#[]⟩ : ByteArray)]) (t := 46) ?hr ?_; (case hd => rfl); (case hg => rfl); (case hr => first | (go_simp; done) | (go_simp; rfl)); intro gb210 hg w30 hbox hb; have n0_ := Aside0.mk (Kd.S_below (Kd.S_elderB (Sq HO_8.out) gb210 (Nat.le_of_eq hg.symm)) hb); have n1_ := Aside0.mk (Kd.R_below (Kd.R_elderB (Rq HO_10.out) gb210 (Nat.le_of_eq hg.symm)) hb); have n2_ := Aside0.mk (IsS135.below (by repeat (first | (with_reducible first | exact HI195.out | apply IsS135.alloc | apply IsS135.drewN | apply IsS135.drew | apply IsS135.set_0 | apply IsS135.set_1) | exact HI195.out)) hb); have n3_ := Aside0.mk (below_step (by repeat (first | (with_reducible first | exact HB.out | apply below_alloc | apply pw_below_drewN | apply below_drew1 | refine below_set ?_ (IsS135.ge HI195.out)) | exact HB.out)) hb); have n4_ := Aside0.mk (hbox); have n5_ := Aside0.mk ((by rw [hg]; exact (below_size (by repeat (first | (with_reducible first | exact HB.out | apply below_alloc | apply pw_below_drewN | apply below_drew1 | refine below_set ?_ (IsS135.ge HI195.out)) | exact HB.out))) : w.heap.size ≤ gb210)); have n6_ := Aside0.mk ((by rw [hg]; exact (below_size (by repeat (first | (with_reducible first | exact HB.out | apply below_alloc | apply pw_below_drewN | apply below_drew1 | refine below_set ?_ (IsS135.ge HI195.out)) | exact HB.out))) : w.heap.size ≤ gb210)); have n7_ := Aside0.mk ((by rw [hg]; exact Nat.ne_of_lt (IsS135.lt (show IsS135 w _ gb195 t208 t209 from by repeat (first | (with_reducible first | exact HI195.out | apply IsS135.alloc | apply IsS135.drewN | apply IsS135.drew | apply IsS135.set_0 | apply IsS135.set_1) | exact HI195.out))) : gb195 ≠ gb210)); have n8_ := Aside0.mk ((by rw [hg]; exact Nat.ne_of_gt (IsS135.lt (show IsS135 w _ gb195 t208 t209 from by repeat (first | (with_reducible first | exact HI195.out | apply IsS135.alloc | apply IsS135.drewN | apply IsS135.drew | apply IsS135.set_0 | apply IsS135.set_1) | exact HI195.out))) : gb210 ≠ gb195)); clear HO_8; clear HO_10; clear HI195; clear HB; have HO_8 := n0_; have HO_10 := n1_; have HI195 := n2_; have HB := n3_; have BK210 := n4_; have GW210 := n5_; have GE210 := n6_; have NB195_210 := n7_; have NB210_195 := n8_; clear n0_ n1_ n2_ n3_ n4_ n5_ n6_ n7_ n8_; clear hb hbox hg; have hnb31 := NB210_195.out; have hnc31 := NB195_210.out; have hcz32_0 : w30.cell? ⟨gb210, 0, none⟩ = some (.string (⟨#[]⟩ : ByteArray)) := (blk_cell BK210.out 0).trans rfl; have hcz32_1 : w30.cell? ⟨gb210, 1, none⟩ = some (.int .i64 0) := (blk_cell BK210.out 1).trans rfl; have hcz32_2 : w30.cell? ⟨gb210, 2, none⟩ = some (.string (⟨#[]⟩ : ByteArray)) := (blk_cell BK210.out 2).trans rfl; have hfz32_0 := blk_frozen BK210.out 0; have hfz32_1 := blk_frozen BK210.out 1; have hfz32_2 := blk_frozen BK210.out 2; obtain ⟨HGz33, hgz33⟩ := HI195.out; have hcz33_0 := cellS135_0 HGz33; have hcz33_1 := cellS135_1 HGz33; have hfz33_0 := blk_frozen HGz33 0; have hfz33_1 := blk_frozen HGz33 1; clear HGz33 hgz33))
         repeat (go_quiet (first | (go_at_call 108; (with_reducible refine (relation_reader_relation.calls k2 gb195 x196000_2 x196001_2 t204 t205 t206 t207 t208 t209 w _ ?side1 ?side2 ?side3 A13.out).mono ?_); (case side1 => repeat (first | (with_reducible first | exact HI195.out | apply IsS135.alloc | apply IsS135.drewN | apply IsS135.drew | apply IsS135.set_0 | apply IsS135.set_1) | exact HI195.out)); (case side2 => repeat (first | (with_reducible first | exact HB.out | apply below_alloc | apply pw_below_drewN | apply below_drew1 | refine below_set ?_ (IsS135.ge HI195.out)) | exact HB.out)); (case side3 => exact HG.out); rintro e w29 ⟨rfl, hi, hb, hk⟩; have n0_ := Aside0.mk (Kd.S_mono (Kd.S_keep (IsS135.apartS (show IsS135 w _ gb195 x196000_2 x196001_2 from by repeat (first | (with_reducible first | exact HI195.out | apply IsS135.alloc | apply IsS135.drewN | apply IsS135.drew | apply IsS135.set_0 | apply IsS135.set_1) | exact HI195.out)) (Sq HO_8.out) (by decide)) hk (fun _ h => h.2)) (fun _ h => h.1)); have n1_ := Aside0.mk (Kd.R_mono (Kd.R_keep (IsS135.apart (show IsS135 w _ gb195 x196000_2 x196001_2 from by repeat (first | (with_reducible first | exact HI195.out | apply IsS135.alloc | apply IsS135.drewN | apply IsS135.drew | apply IsS135.set_0 | apply IsS135.set_1) | exact HI195.out)) (Rq HO_10.out) (by decide)) hk (fun _ h => h.2)) (fun _ h => h.1)); have n2_ := Aside0.mk (hb); have n3_ := Aside0.mk (hi); clear HO_8; clear HO_10; clear HB; clear HI195; have HO_8 := n0_; have HO_10 := n1_; have HB := n2_; have HI195 := n3_; clear n0_ n1_ n2_ n3_; (try clear hb); (try clear hb2); (try clear hk); (try clear hi)) | ((with_reducible refine gate_dst (N := 12) rfl ?_); refine box_event ?hg (N := 12) ?hd (cs := #[.string (⟨#[]⟩ : ByteArray), .int .i64 0, .string (⟨#[]⟩ : ByteArray)]) (t := 46) ?hr ?_; (case hd => rfl); (case hg => rfl); (case hr => first | (go_simp; done) | (go_simp; rfl)); intro gb210 hg w30 hbox hb; have n0_ := Aside0.mk (Kd.S_below (Kd.S_elderB (Sq HO_8.out) gb210 (Nat.le_of_eq hg.symm)) hb); have n1_ := Aside0.mk (Kd.R_below (Kd.R_elderB (Rq HO_10.out) gb210 (Nat.le_of_eq hg.symm)) hb); have n2_ := Aside0.mk (IsS135.below (by repeat (first | (with_reducible first | exact HI195.out | apply IsS135.alloc | apply IsS135.drewN | apply IsS135.drew | apply IsS135.set_0 | apply IsS135.set_1) | exact HI195.out)) hb); have n3_ := Aside0.mk (below_step (by repeat (first | (with_reducible first | exact HB.out | apply below_alloc | apply pw_below_drewN | apply below_drew1 | refine below_set ?_ (IsS135.ge HI195.out)) | exact HB.out)) hb); have n4_ := Aside0.mk (hbox); have n5_ := Aside0.mk ((by rw [hg]; exact (below_size (by repeat (first | (with_reducible first | exact HB.out | apply below_alloc | apply pw_below_drewN | apply below_drew1 | refine below_set ?_ (IsS135.ge HI195.out)) | exact HB.out))) : w.heap.size ≤ gb210)); have n6_ := Aside0.mk ((by rw [hg]; exact (below_size (by repeat (first | (with_reducible first | exact HB.out | apply below_alloc | apply pw_below_drewN | apply below_drew1 | refine below_set ?_ (IsS135.ge HI195.out)) | exact HB.out))) : w.heap.size ≤ gb210)); have n7_ := Aside0.mk ((by rw [hg]; exact Nat.ne_of_lt (IsS135.lt (show IsS135 w _ gb195 t208 t209 from by repeat (first | (with_reducible first | exact HI195.out | apply IsS135.alloc | apply IsS135.drewN | apply IsS135.drew | apply IsS135.set_0 | apply IsS135.set_1) | exact HI195.out))) : gb195 ≠ gb210)); have n8_ := Aside0.mk ((by rw [hg]; exact Nat.ne_of_gt (IsS135.lt (show IsS135 w _ gb195 t208 t209 from by repeat (first | (with_reducible first | exact HI195.out | apply IsS135.alloc | apply IsS135.drewN | apply IsS135.drew | apply IsS135.set_0 | apply IsS135.set_1) | exact HI195.out))) : gb210 ≠ gb195)); clear HO_8; clear HO_10; clear HI195; clear HB; have HO_8 := n0_; have HO_10 := n1_; have HI195 := n2_; have HB := n3_; have BK210 := n4_; have GW210 := n5_; have GE210 := n6_; have NB195_210 := n7_; have NB210_195 := n8_; clear n0_ n1_ n2_ n3_ n4_ n5_ n6_ n7_ n8_; clear hb hbox hg; have hnb31 := NB210_195.out; have hnc31 := NB195_210.out; have hcz32_0 : w30.cell? ⟨gb210, 0, none⟩ = some (.string (⟨#[]⟩ : ByteArray)) := (blk_cell BK210.out 0).trans rfl; have hcz32_1 : w30.cell? ⟨gb210, 1, none⟩ = some (.int .i64 0) := (blk_cell BK210.out 1).trans rfl; have hcz32_2 : w30.cell? ⟨gb210, 2, none⟩ = some (.string (⟨#[]⟩ : ByteArray)) := (blk_cell BK210.out 2).trans rfl; have hfz32_0 := blk_frozen BK210.out 0; have hfz32_1 := blk_frozen BK210.out 1; have hfz32_2 := blk_frozen BK210.out 2; obtain ⟨HGz33, hgz33⟩ := HI195.out; have hcz33_0 := cellS135_0 HGz33; have hcz33_1 := cellS135_1 HGz33; have hfz33_0 := blk_frozen HGz33 0; have hfz33_1 := blk_frozen HGz33 1; clear HGz33 hgz33)); try go_wp2_with (first | (go_at_call 108; (with_reducible refine (relation_reader_relation.calls k2 gb195 x196000_2 x196001_2 t204 t205 t206 t207 t208 t209 w _ ?side1 ?side2 ?side3 A13.out).mono ?_); (case side1 => repeat (first | (with_reducible first | exact HI195.out | apply IsS135.alloc | apply IsS135.drewN | apply IsS135.drew | apply IsS135.set_0 | apply IsS135.set_1) | exact HI195.out)); (case side2 => repeat (first | (with_reducible first | exact HB.out | apply below_alloc | apply pw_below_drewN | apply below_drew1 | refine below_set ?_ (IsS135.ge HI195.out)) | exact HB.out)); (case side3 => exact HG.out); rintro e w29 ⟨rfl, hi, hb, hk⟩; have n0_ := Aside0.mk (Kd.S_mono (Kd.S_keep (IsS135.apartS (show IsS135 w _ gb195 x196000_2 x196001_2 from by repeat (first | (with_reducible first | exact HI195.out | apply IsS135.alloc | apply IsS135.drewN | apply IsS135.drew | apply IsS135.set_0 | apply IsS135.set_1) | exact HI195.out)) (Sq HO_8.out) (by decide)) hk (fun _ h => h.2)) (fun _ h => h.1)); have n1_ := Aside0.mk (Kd.R_mono (Kd.R_keep (IsS135.apart (show IsS135 w _ gb195 x196000_2 x196001_2 from by repeat (first | (with_reducible first | exact HI195.out | apply IsS135.alloc | apply IsS135.drewN | apply IsS135.drew | apply IsS135.set_0 | apply IsS135.set_1) | exact HI195.out)) (Rq HO_10.out) (by decide)) hk (fun _ h => h.2)) (fun _ h => h.1)); have n2_ := Aside0.mk (hb); have n3_ := Aside0.mk (hi); clear HO_8; clear HO_10; clear HB; clear HI195; have HO_8 := n0_; have HO_10 := n1_; have HB := n2_; have HI195 := n3_; clear n0_ n1_ n2_ n3_; (try clear hb); (try clear hb2); (try clear hk); (try clear hi)) | ((with_reducible refine gate_dst (N := 12) rfl ?_); refine box_event ?hg (N := 12) ?hd (cs := #[.string (⟨#[]⟩ : ByteArray), .int .i64 0, .string (⟨#[]⟩ : ByteArray)]) (t := 46) ?hr ?_; (case hd => rfl); (case hg => rfl); (case hr => first | (go_simp; done) | (go_simp; rfl)); intro gb210 hg w30 hbox hb; have n0_ := Aside0.mk (Kd.S_below (Kd.S_elderB (Sq HO_8.out) gb210 (Nat.le_of_eq hg.symm)) hb); have n1_ := Aside0.mk (Kd.R_below (Kd.R_elderB (Rq HO_10.out) gb210 (Nat.le_of_eq hg.symm)) hb); have n2_ := Aside0.mk (IsS135.below (by repeat (first | (with_reducible first | exact HI195.out | apply IsS135.alloc | apply IsS135.drewN | apply IsS135.drew | apply IsS135.set_0 | apply IsS135.set_1) | exact HI195.out)) hb); have n3_ := Aside0.mk (below_step (by repeat (first | (with_reducible first | exact HB.out | apply below_alloc | apply pw_below_drewN | apply below_drew1 | refine below_set ?_ (IsS135.ge HI195.out)) | exact HB.out)) hb); have n4_ := Aside0.mk (hbox); have n5_ := Aside0.mk ((by rw [hg]; exact (below_size (by repeat (first | (with_reducible first | exact HB.out | apply below_alloc | apply pw_below_drewN | apply below_drew1 | refine below_set ?_ (IsS135.ge HI195.out)) | exact HB.out))) : w.heap.size ≤ gb210)); have n6_ := Aside0.mk ((by rw [hg]; exact (below_size (by repeat (first | (with_reducible first | exact HB.out | apply below_alloc | apply pw_below_drewN | apply below_drew1 | refine below_set ?_ (IsS135.ge HI195.out)) | exact HB.out))) : w.heap.size ≤ gb210)); have n7_ := Aside0.mk ((by rw [hg]; exact Nat.ne_of_lt (IsS135.lt (show IsS135 w _ gb195 t208 t209 from by repeat (first | (with_reducible first | exact HI195.out | apply IsS135.alloc | apply IsS135.drewN | apply IsS135.drew | apply IsS135.set_0 | apply IsS135.set_1) | exact HI195.out))) : gb195 ≠ gb210)); have n8_ := Aside0.mk ((by rw [hg]; exact Nat.ne_of_gt (IsS135.lt (show IsS135 w _ gb195 t208 t209 from by repeat (first | (with_reducible first | exact HI195.out | apply IsS135.alloc | apply IsS135.drewN | apply IsS135.drew | apply IsS135.set_0 | apply IsS135.set_1) | exact HI195.out))) : gb210 ≠ gb195)); clear HO_8; clear HO_10; clear HI195; clear HB; have HO_8 := n0_; have HO_10 := n1_; have HI195 := n2_; have HB := n3_; have BK210 := n4_; have GW210 := n5_; have GE210 := n6_; have NB195_210 := n7_; have NB210_195 := n8_; clear n0_ n1_ n2_ n3_ n4_ n5_ n6_ n7_ n8_; clear hb hbox hg; have hnb31 := NB210_195.out; have hnc31 := NB195_210.out; have hcz32_0 : w30.cell? ⟨gb210, 0, none⟩ = some (.string (⟨#[]⟩ : ByteArray)) := (blk_cell BK210.out 0).trans rfl; have hcz32_1 : w30.cell? ⟨gb210, 1, none⟩ = some (.int .i64 0) := (blk_cell BK210.out 1).trans rfl; have hcz32_2 : w30.cell? ⟨gb210, 2, none⟩ = some (.string (⟨#[]⟩ : ByteArray)) := (blk_cell BK210.out 2).trans rfl; have hfz32_0 := blk_frozen BK210.out 0; have hfz32_1 := blk_frozen BK210.out 1; have hfz32_2 := blk_frozen BK210.out 2; obtain ⟨HGz33, hgz33⟩ := HI195.out; have hcz33_0 := cellS135_0 HGz33; have hcz33_1 := cellS135_1 HGz33; have hfz33_0 := blk_frozen HGz33 0; have hfz33_1 := blk_frozen HGz33 1; clear HGz33 hgz33)))
         go_ret3
         exact ⟨_, by first | rfl | (simp [errW_none, errW_some] <;> rfl) | (simp [*, errW_none, errW_some] <;> rfl) | (simp [errW_none, errW_some, Go.Proofs.YtmocooihkobdjaaDoor.listNe]; done), by first | exact Kd.S_nil _ _ _ _ _ | exact Kd.N_nil _ _ _ _ _ | exact Kd.V_nil _ _ _ _ _ | exact Kd.Q_nil _ _ _ _ _ | exact Kd.R_nil _ _ _ _ _, by repeat (first | (with_reducible first | exact HB.out | apply below_alloc | apply pw_below_drewN | apply below_drew1 | refine below_set ?_ (IsS135.ge HI195.out) | refine below_set ?_ GE210.out) | exact HB.out)⟩
       ·replace c12 := Bool.eq_false_iff.mpr c12
        subst c12
        have H1 : (if x8_1.length < 5864062014805 then ((relation_reader_takes.f k2 x196000_2 x196001_2 44).bind fun bt201 => (relation_read.l0 k2 a0 a1 (x8_1 ++ [x10_2]) bt201.1 bt201.2.1 bt201.2.2)) else (none)) = some (r1, r2, r3) := by rw [if_neg (show ¬ (false = true) by decide)] at H; exact H
        clear H
        have H := H1
        clear H1
        by_cases c34 : x8_1.length < 5864062014805
        ·rw [if_pos c34] at H
         have LMc34 := Aside0.mk c34
         clear c34
         obtain ⟨y198, hy198⟩ : ∃ y_ : List (List (S46)), y_ = (x8_1 ++ [x10_2]) := ⟨_, rfl⟩
         replace H : ((relation_reader_takes.f k2 x196000_2 x196001_2 44).bind fun bt201 => (relation_read.l0 k2 a0 a1 y198 bt201.1 bt201.2.1 bt201.2.2)) = some (r1, r2, r3) := by first | (rw [hy198]; with_reducible exact H) | (have H2_ := (Option.bind_some _ _).symm.trans H; rw [hy198]; with_reducible exact H2_) | (have H2_ := (Option.bind_some _ _).symm.trans H; with_reducible exact H2_) | with_reducible exact H | (rw [hy198]; exact H) | exact H
         have Ny198 := Aside0.mk hy198
         clear hy198
         replace H := Option.bind_eq_some_iff.mp H
         obtain ⟨⟨t201, t202, t203⟩, A350, H⟩ := H
         replace H : (relation_read.l0 k2 a0 a1 y198 t201 t202 t203) = some (r1, r2, r3) := H
         have A35 := Aside0.mk A350
         clear A350
         have H' := Aside0.mk H
         clear H
         obtain ⟨Ao37, co37, eo37⟩ := Kd.R_slice HO_10.out
         subst eo37
         go_wp2_with (first | ((with_reducible refine gate_builtin (b := .append) (xs := #[.tmp 49, .tmp 51]) rfl ?_); at_builtin; refine Kd.S_append (Kd.slice 46 k46) (w0 := w) w.heap.size rfl (.tmp 49) (.tmp 51) 22 23 (.slice none 0 0) 24 rfl Tryd.underlying22 info23 rfl (by decide) (by omega) u8 x8_1 x10_2 [.slice Ao37 x10_2.length co37] (fun _ => True) (fun k_ => some k_ = (.slice Ao37 x10_2.length co37 : Value).ownBlock) rfl rfl ?aP (fun k_ hk_ => ((Kd.R_mono (ok' := fun k_ => ((fun _ => True)) k_ ∧ some k_ ≠ (u8 : Value).ownBlock) (Ra (HO_10.out) (Kd.S_typed HO_8.out)) (fun k_ hk => ⟨trivial, hk.2⟩))).1 k_ hk_.symm) ?aF ?aO ?aB ?aS ?aL ?_; (case aP => exact Kd.M_row (Kd.R_mono (Kd.R_tight rfl (Kd.R_mono (ok' := fun k_ => ((fun _ => True)) k_ ∧ some k_ ≠ (u8 : Value).ownBlock) (Ra (HO_10.out) (Kd.S_typed HO_8.out)) (fun k_ hk => ⟨trivial, hk.2⟩))) (fun _ h_ => h_))); (case aB => exact (by repeat (first | (with_reducible first | exact HB.out | apply below_alloc | apply pw_below_drewN | apply below_drew1 | refine below_set ?_ (IsS135.ge HI195.out)) | exact HB.out))); (case aF => exact (fun _ _ => trivial)); (case aO => exact (by (with_reducible repeat (first | apply Kd.S_alloc | apply Kd.S_drewN | apply Kd.S_drew)); exact Kd.S_mono HO_8.out (fun k_ hk => ⟨trivial, fun e_ => hk e_⟩))); (case aS => exact (below_size (by repeat (first | (with_reducible first | exact HB.out | apply below_alloc | apply pw_below_drewN | apply below_drew1 | refine below_set ?_ (IsS135.ge HI195.out)) | exact HB.out)))); (case aL => have := LMc34.out; omega); intro v199 w36 ho hb hg hat; rw [← Ny198.out] at ho; have n0_ := Aside0.mk (IsS135.grown (show IsS135 w _ gb195 x196000_2 x196001_2 from by repeat (first | (with_reducible first | exact HI195.out | apply IsS135.alloc | apply IsS135.drewN | apply IsS135.drew | apply IsS135.set_0 | apply IsS135.set_1) | exact HI195.out)) hg (IsS135.own_neS HI195.out HO_8.out (by decide))); have n1_ := Aside0.mk (hb); have n2_ := Aside0.mk (ho); clear HI195; clear HB; clear HO_8; clear HO_10; have HI195 := n0_; have HB := n1_; have HO200 := n2_; clear n0_ n1_ n2_; clear ho hb hg hat) | (go_at_call 109; (with_reducible refine (relation_reader_takes.calls k2 gb195 x196000_2 x196001_2 44 t201 t202 t203 w _ ?side1 ?side2 A35.out).mono ?_); (case side1 => repeat (first | (with_reducible first | exact HI195.out | apply IsS135.alloc | apply IsS135.drewN | apply IsS135.drew | apply IsS135.set_0 | apply IsS135.set_1) | exact HI195.out)); (case side2 => repeat (first | (with_reducible first | exact HB.out | apply below_alloc | apply pw_below_drewN | apply below_drew1 | refine below_set ?_ (IsS135.ge HI195.out)) | exact HB.out)); rintro e w38 ⟨rfl, hi, hb, hk⟩; have n0_ := Aside0.mk (Kd.S_mono (Kd.S_keep (IsS135.apartS (show IsS135 w _ gb195 x196000_2 x196001_2 from by repeat (first | (with_reducible first | exact HI195.out | apply IsS135.alloc | apply IsS135.drewN | apply IsS135.drew | apply IsS135.set_0 | apply IsS135.set_1) | exact HI195.out)) (Sq HO200.out) (by decide)) hk (fun _ h => h.2)) (fun _ h => h.1)); have n1_ := Aside0.mk (hb); have n2_ := Aside0.mk (hi); clear HO200; clear HB; clear HI195; have HO200 := n0_; have HB := n1_; have HI195 := n2_; clear n0_ n1_ n2_; (try clear hb); (try clear hb2); (try clear hk); (try clear hi)))
         repeat (go_quiet (first | ((with_reducible refine gate_builtin (b := .append) (xs := #[.tmp 49, .tmp 51]) rfl ?_); at_builtin; refine Kd.S_append (Kd.slice 46 k46) (w0 := w) w.heap.size rfl (.tmp 49) (.tmp 51) 22 23 (.slice none 0 0) 24 rfl Tryd.underlying22 info23 rfl (by decide) (by omega) u8 x8_1 x10_2 [.slice Ao37 x10_2.length co37] (fun _ => True) (fun k_ => some k_ = (.slice Ao37 x10_2.length co37 : Value).ownBlock) rfl rfl ?aP (fun k_ hk_ => ((Kd.R_mono (ok' := fun k_ => ((fun _ => True)) k_ ∧ some k_ ≠ (u8 : Value).ownBlock) (Ra (HO_10.out) (Kd.S_typed HO_8.out)) (fun k_ hk => ⟨trivial, hk.2⟩))).1 k_ hk_.symm) ?aF ?aO ?aB ?aS ?aL ?_; (case aP => exact Kd.M_row (Kd.R_mono (Kd.R_tight rfl (Kd.R_mono (ok' := fun k_ => ((fun _ => True)) k_ ∧ some k_ ≠ (u8 : Value).ownBlock) (Ra (HO_10.out) (Kd.S_typed HO_8.out)) (fun k_ hk => ⟨trivial, hk.2⟩))) (fun _ h_ => h_))); (case aB => exact (by repeat (first | (with_reducible first | exact HB.out | apply below_alloc | apply pw_below_drewN | apply below_drew1 | refine below_set ?_ (IsS135.ge HI195.out)) | exact HB.out))); (case aF => exact (fun _ _ => trivial)); (case aO => exact (by (with_reducible repeat (first | apply Kd.S_alloc | apply Kd.S_drewN | apply Kd.S_drew)); exact Kd.S_mono HO_8.out (fun k_ hk => ⟨trivial, fun e_ => hk e_⟩))); (case aS => exact (below_size (by repeat (first | (with_reducible first | exact HB.out | apply below_alloc | apply pw_below_drewN | apply below_drew1 | refine below_set ?_ (IsS135.ge HI195.out)) | exact HB.out)))); (case aL => have := LMc34.out; omega); intro v199 w36 ho hb hg hat; rw [← Ny198.out] at ho; have n0_ := Aside0.mk (IsS135.grown (show IsS135 w _ gb195 x196000_2 x196001_2 from by repeat (first | (with_reducible first | exact HI195.out | apply IsS135.alloc | apply IsS135.drewN | apply IsS135.drew | apply IsS135.set_0 | apply IsS135.set_1) | exact HI195.out)) hg (IsS135.own_neS HI195.out HO_8.out (by decide))); have n1_ := Aside0.mk (hb); have n2_ := Aside0.mk (ho); clear HI195; clear HB; clear HO_8; clear HO_10; have HI195 := n0_; have HB := n1_; have HO200 := n2_; clear n0_ n1_ n2_; clear ho hb hg hat) | (go_at_call 109; (with_reducible refine (relation_reader_takes.calls k2 gb195 x196000_2 x196001_2 44 t201 t202 t203 w _ ?side1 ?side2 A35.out).mono ?_); (case side1 => repeat (first | (with_reducible first | exact HI195.out | apply IsS135.alloc | apply IsS135.drewN | apply IsS135.drew | apply IsS135.set_0 | apply IsS135.set_1) | exact HI195.out)); (case side2 => repeat (first | (with_reducible first | exact HB.out | apply below_alloc | apply pw_below_drewN | apply below_drew1 | refine below_set ?_ (IsS135.ge HI195.out)) | exact HB.out)); rintro e w38 ⟨rfl, hi, hb, hk⟩; have n0_ := Aside0.mk (Kd.S_mono (Kd.S_keep (IsS135.apartS (show IsS135 w _ gb195 x196000_2 x196001_2 from by repeat (first | (with_reducible first | exact HI195.out | apply IsS135.alloc | apply IsS135.drewN | apply IsS135.drew | apply IsS135.set_0 | apply IsS135.set_1) | exact HI195.out)) (Sq HO200.out) (by decide)) hk (fun _ h => h.2)) (fun _ h => h.1)); have n1_ := Aside0.mk (hb); have n2_ := Aside0.mk (hi); clear HO200; clear HB; clear HI195; have HO200 := n0_; have HB := n1_; have HI195 := n2_; clear n0_ n1_ n2_; (try clear hb); (try clear hb2); (try clear hk); (try clear hi))); try go_wp2_with (first | ((with_reducible refine gate_builtin (b := .append) (xs := #[.tmp 49, .tmp 51]) rfl ?_); at_builtin; refine Kd.S_append (Kd.slice 46 k46) (w0 := w) w.heap.size rfl (.tmp 49) (.tmp 51) 22 23 (.slice none 0 0) 24 rfl Tryd.underlying22 info23 rfl (by decide) (by omega) u8 x8_1 x10_2 [.slice Ao37 x10_2.length co37] (fun _ => True) (fun k_ => some k_ = (.slice Ao37 x10_2.length co37 : Value).ownBlock) rfl rfl ?aP (fun k_ hk_ => ((Kd.R_mono (ok' := fun k_ => ((fun _ => True)) k_ ∧ some k_ ≠ (u8 : Value).ownBlock) (Ra (HO_10.out) (Kd.S_typed HO_8.out)) (fun k_ hk => ⟨trivial, hk.2⟩))).1 k_ hk_.symm) ?aF ?aO ?aB ?aS ?aL ?_; (case aP => exact Kd.M_row (Kd.R_mono (Kd.R_tight rfl (Kd.R_mono (ok' := fun k_ => ((fun _ => True)) k_ ∧ some k_ ≠ (u8 : Value).ownBlock) (Ra (HO_10.out) (Kd.S_typed HO_8.out)) (fun k_ hk => ⟨trivial, hk.2⟩))) (fun _ h_ => h_))); (case aB => exact (by repeat (first | (with_reducible first | exact HB.out | apply below_alloc | apply pw_below_drewN | apply below_drew1 | refine below_set ?_ (IsS135.ge HI195.out)) | exact HB.out))); (case aF => exact (fun _ _ => trivial)); (case aO => exact (by (with_reducible repeat (first | apply Kd.S_alloc | apply Kd.S_drewN | apply Kd.S_drew)); exact Kd.S_mono HO_8.out (fun k_ hk => ⟨trivial, fun e_ => hk e_⟩))); (case aS => exact (below_size (by repeat (first | (with_reducible first | exact HB.out | apply below_alloc | apply pw_below_drewN | apply below_drew1 | refine below_set ?_ (IsS135.ge HI195.out)) | exact HB.out)))); (case aL => have := LMc34.out; omega); intro v199 w36 ho hb hg hat; rw [← Ny198.out] at ho; have n0_ := Aside0.mk (IsS135.grown (show IsS135 w _ gb195 x196000_2 x196001_2 from by repeat (first | (with_reducible first | exact HI195.out | apply IsS135.alloc | apply IsS135.drewN | apply IsS135.drew | apply IsS135.set_0 | apply IsS135.set_1) | exact HI195.out)) hg (IsS135.own_neS HI195.out HO_8.out (by decide))); have n1_ := Aside0.mk (hb); have n2_ := Aside0.mk (ho); clear HI195; clear HB; clear HO_8; clear HO_10; have HI195 := n0_; have HB := n1_; have HO200 := n2_; clear n0_ n1_ n2_; clear ho hb hg hat) | (go_at_call 109; (with_reducible refine (relation_reader_takes.calls k2 gb195 x196000_2 x196001_2 44 t201 t202 t203 w _ ?side1 ?side2 A35.out).mono ?_); (case side1 => repeat (first | (with_reducible first | exact HI195.out | apply IsS135.alloc | apply IsS135.drewN | apply IsS135.drew | apply IsS135.set_0 | apply IsS135.set_1) | exact HI195.out)); (case side2 => repeat (first | (with_reducible first | exact HB.out | apply below_alloc | apply pw_below_drewN | apply below_drew1 | refine below_set ?_ (IsS135.ge HI195.out)) | exact HB.out)); rintro e w38 ⟨rfl, hi, hb, hk⟩; have n0_ := Aside0.mk (Kd.S_mono (Kd.S_keep (IsS135.apartS (show IsS135 w _ gb195 x196000_2 x196001_2 from by repeat (first | (with_reducible first | exact HI195.out | apply IsS135.alloc | apply IsS135.drewN | apply IsS135.drew | apply IsS135.set_0 | apply IsS135.set_1) | exact HI195.out)) (Sq HO200.out) (by decide)) hk (fun _ h => h.2)) (fun _ h => h.1)); have n1_ := Aside0.mk (hb); have n2_ := Aside0.mk (hi); clear HO200; clear HB; clear HI195; have HO200 := n0_; have HB := n1_; have HI195 := n2_; clear n0_ n1_ n2_; (try clear hb); (try clear hb2); (try clear hk); (try clear hi))))
         go_roundg k2
         case measure => have := HK1.out; have := HK2.out; omega
         case rel => exact ⟨(y198), (t201), (t202), (t203), (by first | rfl | (simp; done) | (simp [*]; done)), H', ⟨by have := HK1.out; have := HK2.out; omega⟩, ⟨by (with_reducible repeat (first | apply Kd.S_alloc | apply Kd.S_drewN | apply Kd.S_drew)); exact HO200.out⟩, ⟨by repeat (first | (with_reducible first | exact HI195.out | apply IsS135.alloc | apply IsS135.drewN | apply IsS135.drew | apply IsS135.set_0 | apply IsS135.set_1) | exact HI195.out)⟩, ⟨by repeat (first | (with_reducible first | exact HB.out | apply below_alloc | apply pw_below_drewN | apply below_drew1 | refine below_set ?_ (IsS135.ge HI195.out)) | exact HB.out)⟩⟩
        ·rw [if_neg c34] at H
         exact absurd H (by simp)
    ·replace c11 := Bool.eq_false_iff.mpr c11
     subst c11
     have H1 : (if x196001_1 < (a0.size : Int) then (some (([] : List (List (S46))), 220, x196001_1)) else (some (x8_1, 0, 0))) = some (r1, r2, r3) := by rw [if_neg (show ¬ (false = true) by decide)] at H; exact H
     clear H
     have H := H1
     clear H1
     by_cases c39 : x196001_1 < (a0.size : Int)
     ·rw [if_pos c39] at H
      have c39b0 : decide (x196001_1 < (a0.size : Int)) = true := decide_eq_true c39
      clear c39
      simp only [Option.some.injEq, Prod.mk.injEq] at H
      obtain ⟨rfl, rfl, rfl⟩ := H
      obtain ⟨HGz40, hgz40⟩ := HI195.out
      have hcz40_0 := cellS135_0 HGz40
      have hcz40_1 := cellS135_1 HGz40
      have hfz40_0 := blk_frozen HGz40 0
      have hfz40_1 := blk_frozen HGz40 1
      clear HGz40 hgz40
      go_wp2
      repeat (go_quiet (fail); try go_wp2)
      go_ret3
      exact ⟨_, by first | rfl | (simp [errW_none, errW_some] <;> rfl) | (simp [*, errW_none, errW_some] <;> rfl) | (simp [errW_none, errW_some, Go.Proofs.YtmocooihkobdjaaDoor.listNe]; done), by first | exact Kd.S_nil _ _ _ _ _ | exact Kd.N_nil _ _ _ _ _ | exact Kd.V_nil _ _ _ _ _ | exact Kd.Q_nil _ _ _ _ _ | exact Kd.R_nil _ _ _ _ _, by repeat (first | (with_reducible first | exact HB.out | apply below_alloc | apply pw_below_drewN | apply below_drew1 | refine below_set ?_ (IsS135.ge HI195.out)) | exact HB.out)⟩
     ·rw [if_neg c39] at H
      have c39b0 : decide (x196001_1 < (a0.size : Int)) = false := decide_eq_false c39
      clear c39
      simp only [Option.some.injEq, Prod.mk.injEq] at H
      obtain ⟨rfl, rfl, rfl⟩ := H
      obtain ⟨HGz41, hgz41⟩ := HI195.out
      have hcz41_0 := cellS135_0 HGz41
      have hcz41_1 := cellS135_1 HGz41
      have hfz41_0 := blk_frozen HGz41 0
      have hfz41_1 := blk_frozen HGz41 1
      clear HGz41 hgz41
      go_wp2
      repeat (go_quiet (fail); try go_wp2)
      go_ret3
      exact ⟨_, by first | rfl | (simp [errW_none, errW_some] <;> rfl) | (simp [*, errW_none, errW_some] <;> rfl) | (simp [errW_none, errW_some, Go.Proofs.YtmocooihkobdjaaDoor.listNe]; done), by (with_reducible repeat (first | apply Kd.S_alloc | apply Kd.S_drewN | apply Kd.S_drew)); exact HO_8.out, by repeat (first | (with_reducible first | exact HB.out | apply below_alloc | apply pw_below_drewN | apply below_drew1 | refine below_set ?_ (IsS135.ge HI195.out)) | exact HB.out)⟩
end Go.Proofs.YtmocooihkobdjaaDoor.G
end
section
namespace Go.Proofs.YtmocooihkobdjaaDoor.G
open Go.RowKit Go.Proofs.YtmocooihkobdjaaDoorW.PrintWords Go.Proofs.YtmocooihkobdjaaDoorW.PrintLast Go.Proofs.YtmocooihkobdjaaDoorW.PrintMore
attribute [local go_sem] max2_int min2_int max_two min_two max_three min_three max_four min_four
set_option linter.unusedVariables false
set_option linter.unusedSimpArgs false
def relation_Read.f (k : Nat) (a0 : ByteArray) : Option ((List (List (S46))) × Int × Int) := (relation_read.f k a0 true).bind fun bt217 => (some (bt217.1, bt217.2.1, bt217.2.2))
theorem relation_Read.mono : ∀ a0 k, LeO (relation_Read.f k a0) (relation_Read.f (k + 1) a0) := by
 intro a0 k
 unfold relation_Read.f
 repeat' first
   | (with_reducible exact relation_read.mono _ _ _)
   | (with_reducible exact LeO.refl _)
   | (with_reducible exact LeO.none _)
   | (with_reducible refine LeO.ite ?_ ?_)
   | (with_reducible refine LeO.bind ?_ (fun _ => ?_))
   | exact relation_read.mono _ _ _
   | exact LeO.none _
   | refine LeO.ite ?_ ?_
   | refine LeO.bind ?_ (fun _ => ?_)
set_option maxHeartbeats 8000000 in
set_option maxRecDepth 100000 in
theorem relation_Read.calls (k : Nat) (a0 : ByteArray) (r1 : List (List (S46))) (r2 : Int) (r3 : Int) (w : World) (hG : GG w) (h : relation_Read.f k a0 = some (r1, r2, r3)) :
  Calls Tryd.prog 67 #[.string a0] w fun e w' => ∃ v0_ : Value, e = .returned (.tuple #[v0_, .int .i64 r2, .int .i64 r3]) ∧ Kd.S (Kd.slice 46 k46) 23 w' w.heap.size (fun _ => True) v0_ r1 ∧ Below w.heap.size w w' := by
 have HB := Aside0.mk (Below.refl w.heap.size w)
 have HG := Aside0.mk hG
 clear hG
 have H : ((relation_read.f k a0 true).bind fun bt217 => (some (bt217.1, bt217.2.1, bt217.2.2))) = some (r1, r2, r3) := h
 clear h
 replace H := Option.bind_eq_some_iff.mp H
 obtain ⟨⟨t217, t218, t219⟩, A20, H⟩ := H
 replace H : (some (t217, t218, t219)) = some (r1, r2, r3) := H
 have A2 := Aside0.mk A20
 clear A20
 simp only [Option.some.injEq, Prod.mk.injEq] at H
 obtain ⟨rfl, rfl, rfl⟩ := H
 go_enter Tryd.func67, Tryd.ntmps67
 go_wp2_with (first | ((with_reducible refine gate_callee (f := 88) rfl ?_); refine goesL_ (some 6) rfl rfl Tryd.func88 (by kernel_rfl) rfl #[.string a0, .bool true] rfl (by (try simp only [List.map_toArray, List.map_cons, List.map_nil]); first | done | rfl | (simp only [List.length_drop, List.length_take]; rfl) | (simp; done)) ?_; (with_reducible refine (relation_read.calls k a0 true t217 t218 t219 _ ?side1 A2.out).mono ?_); (case side1 => exact GG.below HG.out (W0 HB.out)); rintro e w3 ⟨v220, rfl, ho0, hb⟩; refine ⟨_, rfl, ?_⟩; have n0_ := Aside0.mk (Kd.S_lower ho0 (below_size (W0 HB.out))); have n1_ := Aside0.mk (below_step (W0 HB.out) hb); clear HB; have HO221 := n0_; have HB := n1_; clear n0_ n1_; (try clear hb); (try clear hb2); (try clear hk); (try clear hi); (try clear ho0)))
 go_ret3
 exact ⟨_, by first | rfl | (simp [errW_none, errW_some] <;> rfl) | (simp [*, errW_none, errW_some] <;> rfl) | (simp [errW_none, errW_some, Go.Proofs.YtmocooihkobdjaaDoor.listNe]; done), by (with_reducible repeat (first | apply Kd.S_alloc | apply Kd.S_drewN | apply Kd.S_drew)); exact HO221.out, by repeat (first | (with_reducible first | exact HB.out | apply below_alloc | apply pw_below_drewN | apply below_drew1) | exact HB.out)⟩
end Go.Proofs.YtmocooihkobdjaaDoor.G
end
section
namespace Go.Proofs.YtmocooihkobdjaaDoor.G
open Go.RowKit Go.Proofs.YtmocooihkobdjaaDoorW.PrintWords Go.Proofs.YtmocooihkobdjaaDoorW.PrintLast Go.Proofs.YtmocooihkobdjaaDoorW.PrintMore
attribute [local go_sem] max2_int min2_int max_two min_two max_three min_three max_four min_four
set_option linter.unusedVariables false
set_option linter.unusedSimpArgs false
def relation_ReadList.l0 : Nat → Int → Int → List (S46) → List (List (S46)) → Int → Int → Option ((List (S46)) × Int × Int)
 | 0, _, _, _, _, _, _ => none
 | k + 1, x6, x7, x8, x17, x18, x19 => if x19 < x18 then (if 0 ≤ x19 then (if x19 < (x17.length : Int) then (if x8.length + (rd_L3 x17 x19).length < 3518437208883 then (relation_ReadList.l0 k x6 x7 (x8 ++ (rd_L3 x17 x19)) x17 x18 (wrap64 (x19 + 1))) else (none)) else (none)) else (none)) else (some (x8, x6, x7))
def relation_ReadList.f (k : Nat) (a0 : ByteArray) : Option ((List (S46)) × Int × Int) := (relation_read.f k a0 false).bind fun bt222 => (relation_ReadList.l0 k bt222.2.1 bt222.2.2 ([] : List (S46)) bt222.1 (bt222.1.length : Int) 0)
theorem relation_ReadList.mono_l : ∀ k, (∀ y0 y1 y2 y3 y4 y5, LeO (relation_ReadList.l0 k y0 y1 y2 y3 y4 y5) (relation_ReadList.l0 (k + 1) y0 y1 y2 y3 y4 y5))
 | 0 => fun _ _ _ _ _ _ r h => by simp [relation_ReadList.l0] at h
 | k + 1 => by
  have ih0 := relation_ReadList.mono_l k
  ·intro y0 y1 y2 y3 y4 y5
   unfold relation_ReadList.l0
   repeat' first
   | (with_reducible exact ih0 _ _ _ _ _ _)
   | (with_reducible exact relation_read.mono _ _ _)
   | (with_reducible exact LeO.refl _)
   | (with_reducible exact LeO.none _)
   | (with_reducible refine LeO.ite ?_ ?_)
   | (with_reducible refine LeO.bind ?_ (fun _ => ?_))
   | exact ih0 _ _ _ _ _ _
   | exact relation_read.mono _ _ _
   | exact LeO.none _
   | refine LeO.ite ?_ ?_
   | refine LeO.bind ?_ (fun _ => ?_)
theorem relation_ReadList.mono : ∀ a0 k, LeO (relation_ReadList.f k a0) (relation_ReadList.f (k + 1) a0) := by
 intro a0 k
 have ih0 := relation_ReadList.mono_l k
 unfold relation_ReadList.f
 repeat' first
   | (with_reducible exact ih0 _ _ _ _ _ _)
   | (with_reducible exact relation_read.mono _ _ _)
   | (with_reducible exact LeO.refl _)
   | (with_reducible exact LeO.none _)
   | (with_reducible refine LeO.ite ?_ ?_)
   | (with_reducible refine LeO.bind ?_ (fun _ => ?_))
   | exact ih0 _ _ _ _ _ _
   | exact relation_read.mono _ _ _
   | exact LeO.none _
   | refine LeO.ite ?_ ?_
   | refine LeO.bind ?_ (fun _ => ?_)
set_option maxHeartbeats 8000000 in
set_option maxRecDepth 100000 in
theorem relation_ReadList.calls (k : Nat) (a0 : ByteArray) (r1 : List (S46)) (r2 : Int) (r3 : Int) (w : World) (hG : GG w) (h : relation_ReadList.f k a0 = some (r1, r2, r3)) :
  Calls Tryd.prog 68 #[.string a0] w fun e w' => ∃ v0_ : Value, e = .returned (.tuple #[v0_, .int .i64 r2, .int .i64 r3]) ∧ Kd.R k46 46 w' w.heap.size (fun _ => True) v0_ r1 ∧ Below w.heap.size w w' := by
 have HB := Aside0.mk (Below.refl w.heap.size w)
 have HG := Aside0.mk hG
 clear hG
 have H : ((relation_read.f k a0 false).bind fun bt222 => (relation_ReadList.l0 k bt222.2.1 bt222.2.2 ([] : List (S46)) bt222.1 (bt222.1.length : Int) 0)) = some (r1, r2, r3) := h
 clear h
 replace H := Option.bind_eq_some_iff.mp H
 obtain ⟨⟨t222, t223, t224⟩, A20, H⟩ := H
 replace H : (relation_ReadList.l0 k t223 t224 ([] : List (S46)) t222 (t222.length : Int) 0) = some (r1, r2, r3) := H
 have A2 := Aside0.mk A20
 clear A20
 have H' := Aside0.mk H
 clear H
 go_enter Tryd.func68, Tryd.ntmps68
 go_wp2_with (first | ((with_reducible refine gate_callee (f := 88) rfl ?_); refine goesL_ (some 13) rfl rfl Tryd.func88 (by kernel_rfl) rfl #[.string a0, .bool false] rfl (by (try simp only [List.map_toArray, List.map_cons, List.map_nil]); first | done | rfl | (simp only [List.length_drop, List.length_take]; rfl) | (simp; done)) ?_; (with_reducible refine (relation_read.calls k a0 false t222 t223 t224 _ ?side1 A2.out).mono ?_); (case side1 => exact GG.below HG.out (W0 HB.out)); rintro e w3 ⟨v225, rfl, ho0, hb⟩; refine ⟨_, rfl, ?_⟩; have n0_ := Aside0.mk (Kd.S_lower ho0 (below_size (W0 HB.out))); have n1_ := Aside0.mk (below_step (W0 HB.out) hb); clear HB; have HO226 := n0_; have HB := n1_; clear n0_ n1_; (try clear hb); (try clear hb2); (try clear hk); (try clear hi); (try clear ho0); obtain ⟨Ao4, co4, eo4⟩ := Kd.S_slice HO226.out; subst eo4))
 go_loopg [8, 19] k (fun kq v8 v19 w' => ∃ (x8_1 : List (S46)) (x19_1 : Int), v19 = .int .i64 x19_1 ∧ Aside0 (relation_ReadList.l0 kq t223 t224 x8_1 t222 (t222.length : Int) x19_1 = some (r1, r2, r3)) ∧ Aside0 (kq ≤ k) ∧ Aside0 (Kd.R k46 46 w' w.heap.size (fun _ => True) v8 x8_1) ∧ Aside0 (Kd.S (Kd.slice 46 k46) 23 w' w.heap.size (fun k_ => some k_ ≠ (v8 : Value).ownBlock) (.slice Ao4 t222.length co4) t222) ∧ Aside0 (Below w.heap.size w w'))
 case atStart => exact ⟨(([] : List (S46))), (0), (by first | rfl | (simp; done) | (simp [*]; done)), H', ⟨Nat.le_refl _⟩, ⟨by first | exact Kd.R_nil _ _ _ _ _ | exact Kd.N_nil _ _ _ _ _ | exact Kd.V_nil _ _ _ _ _ | exact Kd.Q_nil _ _ _ _ _ | exact Kd.S_nil _ _ _ _ _⟩, ⟨by (with_reducible repeat (first | apply Kd.S_alloc | apply Kd.S_drewN | apply Kd.S_drew)); exact Kd.S_mono HO226.out (fun _ hk => (by simp [Value.ownBlock]))⟩, ⟨by repeat (first | (with_reducible first | exact HB.out | apply below_alloc | apply pw_below_drewN | apply below_drew1) | exact HB.out)⟩⟩
 case round =>
  clear H'
  try clear p2
  obtain ⟨x8_1, x19_1, rfl, HA, HK1, HO_8, HO_17, HB⟩ := hrel
  cases gk with
  | zero => exact absurd HA.out (by simp [relation_ReadList.l0])
  | succ k1 =>
   have H := HA.out
   clear HA
   simp only [relation_ReadList.l0] at H
   by_cases c5 : x19_1 < (t222.length : Int)
   ·rw [if_pos c5] at H
    have c5b0 : decide (x19_1 < (t222.length : Int)) = true := decide_eq_true c5
    clear c5
    by_cases c6 : 0 ≤ x19_1
    ·rw [if_pos c6] at H
     have c6b0 : decide (0 ≤ x19_1) = true := decide_eq_true c6
     clear c6
     by_cases c7 : x19_1 < (t222.length : Int)
     ·rw [if_pos c7] at H
      have c7b0 : decide (x19_1 < (t222.length : Int)) = true := decide_eq_true c7
      clear c7
      by_cases c8 : x8_1.length + (rd_L3 t222 x19_1).length < 3518437208883
      ·rw [if_pos c8] at H
       have LMc8 := Aside0.mk c8
       clear c8
       obtain ⟨y228, hy228⟩ : ∃ y_ : List (S46), y_ = (x8_1 ++ (rd_L3 t222 x19_1)) := ⟨_, rfl⟩
       replace H : (relation_ReadList.l0 k1 t223 t224 y228 t222 (t222.length : Int) (wrap64 (x19_1 + 1))) = some (r1, r2, r3) := by first | (rw [hy228]; with_reducible exact H) | (have H2_ := (Option.bind_some _ _).symm.trans H; rw [hy228]; with_reducible exact H2_) | (have H2_ := (Option.bind_some _ _).symm.trans H; with_reducible exact H2_) | with_reducible exact H | (rw [hy228]; exact H) | exact H
       have Ny228 := Aside0.mk hy228
       clear hy228
       have H' := Aside0.mk H
       clear H
       have p227 : 0 ≤ (x19_1 : Int) := of_decide_eq_true (by first | (with_reducible assumption) | assumption)
       have q227 : x19_1 < (t222.length : Int) := of_decide_eq_true (by first | (with_reducible assumption) | assumption)
       obtain ⟨ad227, A227_0, c227_0, e227, hx227_0, hl227_0, hi227_0⟩ := at_L3 (Kd.S_reads' HO_17.out).2.2 x19_1 p227 q227
       cases e227
       obtain ⟨ce227, hce227, hMe227, hcc227⟩ := Kd.S_get HO_17.out [] x19_1 p227 (by first | exact q227 | exact of_decide_eq_true (by first | (with_reducible assumption) | assumption) | (have e_ := (Kd.S_reads' HO_17.out).1; omega))
       obtain ⟨ve227_0, rfl, ge227_0⟩ := hMe227
       have hv227_0 := hcc227 0 _ rfl
       rw [Nat.add_zero, show ((Kd.slice 46 k46)).sz = 1 from rfl, Nat.mul_one] at hv227_0
       replace hv227_0 := Option.some.inj (hv227_0.symm.trans hx227_0)
       rw [hv227_0] at ge227_0
       have HL227_0 := Aside0.mk (show Kd.R k46 46 _ _ _ _ (rd_L3 t222 x19_1) from ge227_0)
       clear hv227_0 ge227_0
       clear hcc227 hce227
       have HR227_0 := Aside0.mk hi227_0
       have HC227_0 := Aside0.mk hl227_0
       clear hi227_0 hl227_0
       replace p227 := eq_true p227
       replace q227 := eq_true q227
       go_wp2_with (first | ((with_reducible refine gate_builtin (b := .append) (xs := #[.tmp 23, .tmp 24]) rfl ?_); at_builtin; refine Kd.R_append_rows k46 (w0 := w) w.heap.size rfl (.tmp 23) (.tmp 24) 23 46 (.agg #[(.string ⟨#[]⟩), (.int .i64 0), (.string ⟨#[]⟩)]) 40 rfl Tryd.underlying23 info46 rfl (by decide) (by omega) u8 x8_1 (rd_L3 t222 x19_1) _ _ _ (fun _ => True) (fun _ => False) rfl rfl ?aO ?aR (fun _ _ h => h) (fun _ h => h.elim) ?aF ?aB ?aS ?aL ?_; (case aR => repeat (first | exact (by repeat (first | (with_reducible exact HR227_0.out) | (with_reducible refine Kd.C_alloc ?_ _) | (with_reducible refine Kd.C_drewN ?_ _) | (with_reducible refine Kd.C_drew ?_) | exact HR227_0.out)) | (with_reducible refine Kd.C_alloc ?_ _) | (with_reducible refine Kd.C_drewN ?_ _) | (with_reducible refine Kd.C_drew ?_))); (case aB => exact (W0 HB.out)); (case aF => exact (fun _ _ => trivial)); (case aO => exact (Rq HO_8.out)); (case aS => exact (below_size (W0 HB.out))); (case aL => have := LMc8.out; omega); intro v229 w9 ho hb hg hat; rw [← Ny228.out] at ho; have n0_ := Aside0.mk (Kd.S_after (ok := (fun _ => True)) (by (with_reducible repeat (first | apply Kd.S_alloc | apply Kd.S_drewN | apply Kd.S_drew)); exact Kd.S_mono HO_17.out (fun _ hk => ⟨trivial, hk⟩)) hg hat); have n1_ := Aside0.mk (Kd.R_after (ok := (fun k_ => some k_ ≠ (.slice (some ad227) t222.length co4 : Value).ownBlock)) (by (with_reducible repeat (first | apply Kd.R_alloc | apply Kd.R_drewN | apply Kd.R_drew)); exact Kd.R_mono HL227_0.out (fun _ hk => ⟨hk.2, hk.1⟩)) hg hat); have n2_ := Aside0.mk (hb); have n3_ := Aside0.mk (ho); clear HO_17; clear HL227_0; clear HB; clear HO_8; have HO_17 := n0_; have HL227_0 := n1_; have HB := n2_; have HO230 := n3_; clear n0_ n1_ n2_ n3_; clear ho hb hg hat))
       go_roundg k1
       case measure => have := HK1.out; omega
       case rel => exact ⟨(y228), (wrap64 (x19_1 + 1)), (by first | rfl | (simp; done) | (simp [*]; done)), H', ⟨by have := HK1.out; omega⟩, ⟨by (with_reducible repeat (first | apply Kd.R_alloc | apply Kd.R_drewN | apply Kd.R_drew)); exact HO230.out⟩, ⟨by (with_reducible repeat (first | apply Kd.S_alloc | apply Kd.S_drewN | apply Kd.S_drew)); exact Kd.S_mono HO_17.out (fun _ hk => hk.2)⟩, ⟨by repeat (first | (with_reducible first | exact HB.out | apply below_alloc | apply pw_below_drewN | apply below_drew1) | exact HB.out)⟩⟩
      ·rw [if_neg c8] at H
       exact absurd H (by simp)
     ·rw [if_neg c7] at H
      exact absurd H (by simp)
    ·rw [if_neg c6] at H
     exact absurd H (by simp)
   ·rw [if_neg c5] at H
    have c5b0 : decide (x19_1 < (t222.length : Int)) = false := decide_eq_false c5
    clear c5
    simp only [Option.some.injEq, Prod.mk.injEq] at H
    obtain ⟨rfl, rfl, rfl⟩ := H
    go_wp2
    go_ret3
    exact ⟨_, by first | rfl | (simp [errW_none, errW_some] <;> rfl) | (simp [*, errW_none, errW_some] <;> rfl) | (simp [errW_none, errW_some, Go.Proofs.YtmocooihkobdjaaDoor.listNe]; done), by (with_reducible repeat (first | apply Kd.R_alloc | apply Kd.R_drewN | apply Kd.R_drew)); exact HO_8.out, by repeat (first | (with_reducible first | exact HB.out | apply below_alloc | apply pw_below_drewN | apply below_drew1) | exact HB.out)⟩
end Go.Proofs.YtmocooihkobdjaaDoor.G
end
section
namespace Go.Proofs.YtmocooihkobdjaaDoor.G
open Go.RowKit Go.Proofs.YtmocooihkobdjaaDoorW.PrintWords Go.Proofs.YtmocooihkobdjaaDoorW.PrintLast Go.Proofs.YtmocooihkobdjaaDoorW.PrintMore
attribute [local go_sem] max2_int min2_int max_two min_two max_three min_three max_four min_four
set_option linter.unusedVariables false
set_option linter.unusedSimpArgs false
def strings_shouldUseASCIISet.f (a0 : Int) : Option (Bool) := some (decide (a0 > 8))
set_option maxHeartbeats 8000000 in
set_option maxRecDepth 100000 in
theorem strings_shouldUseASCIISet.calls (a0 : Int) (r : Bool) (w : World) (h : strings_shouldUseASCIISet.f a0 = some r) :
  Calls Tryd.prog 87 #[.int .i64 a0] w fun e w' => e = .returned (.bool r) ∧ Drawn0 w w' := by
 have H : (some (decide (a0 > 8))) = some r := h
 clear h
 obtain rfl := Option.some.inj H
 go_enter Tryd.func87, Tryd.ntmps87
 go_wp2
 go_ret
 exact ⟨by first | rfl | (simp; done) | (simp [*]; done), by repeat (first | exact Drawn0.refl _ | apply Drawn0.step)⟩
end Go.Proofs.YtmocooihkobdjaaDoor.G
end
section
namespace Go.Proofs.YtmocooihkobdjaaDoor.G
open Go.RowKit Go.Proofs.YtmocooihkobdjaaDoorW.PrintWords Go.Proofs.YtmocooihkobdjaaDoorW.PrintLast Go.Proofs.YtmocooihkobdjaaDoorW.PrintMore
attribute [local go_sem] max2_int min2_int max_two min_two max_three min_three max_four min_four
set_option linter.unusedVariables false
set_option linter.unusedSimpArgs false
def strings_IndexByte.f (a0 : ByteArray) (a1 : Int) : Option (Int) := (stringslite_IndexByte.f a0 a1).bind fun t231 => (some t231)
set_option maxHeartbeats 8000000 in
set_option maxRecDepth 100000 in
theorem strings_IndexByte.calls (a0 : ByteArray) (a1 : Int) (r : Int) (w : World) (h : strings_IndexByte.f a0 a1 = some r) :
  Calls Tryd.prog 103 #[.string a0, .int .u8 a1] w fun e w' => e = .returned (.int .i64 r) ∧ Drawn0 w w' := by
 have H : ((stringslite_IndexByte.f a0 a1).bind fun t231 => (some t231)) = some r := h
 clear h
 replace H := Option.bind_eq_some_iff.mp H
 obtain ⟨t231, A30, H⟩ := H
 replace H : (some t231) = some r := H
 have A3 := Aside0.mk A30
 clear A30
 obtain rfl := Option.some.inj H
 go_enter Tryd.func103, Tryd.ntmps103
 go_wp2_with (first | ((with_reducible refine gate_callee (f := 117) rfl ?_); refine goesL_ (some 7) rfl rfl Tryd.func117 (by kernel_rfl) rfl #[.string a0, .int .u8 a1] rfl (by (try simp only [List.map_toArray, List.map_cons, List.map_nil]); first | done | rfl | (simp only [List.length_drop, List.length_take]; rfl) | (simp; done)) ?_; (with_reducible refine (stringslite_IndexByte.calls a0 a1 t231 _ A3.out).mono ?_); rintro e w' ⟨rfl, ⟨nd, rfl⟩⟩; refine ⟨_, rfl, ?_⟩))
 go_ret
 exact ⟨by first | rfl | (simp; done) | (simp [*]; done), by repeat (first | exact Drawn0.refl _ | apply Drawn0.step)⟩
end Go.Proofs.YtmocooihkobdjaaDoor.G
end
section
namespace Go.Proofs.YtmocooihkobdjaaDoor.G
open Go.RowKit Go.Proofs.YtmocooihkobdjaaDoorW.PrintWords Go.Proofs.YtmocooihkobdjaaDoorW.PrintLast Go.Proofs.YtmocooihkobdjaaDoorW.PrintMore
attribute [local go_sem] max2_int min2_int max_two min_two max_three min_three max_four min_four
set_option linter.unusedVariables false
set_option linter.unusedSimpArgs false
def utf8_ValidRune.j0 : Nat → Int → Bool → Option (Bool)
 | 0, _, _ => none
 | k + 1, x0, x3 => if x3 = true then (some true) else (if 57343 < x0 then (if x0 ≤ 1114111 then (some true) else (some false)) else (some false))
def utf8_ValidRune.f (k : Nat) (a0 : Int) : Option (Bool) := if 0 ≤ a0 then (utf8_ValidRune.j0 k a0 (decide (a0 < 55296))) else (utf8_ValidRune.j0 k a0 false)
theorem utf8_ValidRune.mono_l : ∀ k, (∀ y0 y1, LeO (utf8_ValidRune.j0 k y0 y1) (utf8_ValidRune.j0 (k + 1) y0 y1))
 | 0 => fun _ _ r h => by simp [utf8_ValidRune.j0] at h
 | k + 1 => by
  have ih0 := utf8_ValidRune.mono_l k
  ·intro y0 y1
   unfold utf8_ValidRune.j0
   repeat' first
   | (with_reducible exact ih0 _ _)
   | (with_reducible exact LeO.refl _)
   | (with_reducible exact LeO.none _)
   | (with_reducible refine LeO.ite ?_ ?_)
   | (with_reducible refine LeO.bind ?_ (fun _ => ?_))
   | exact ih0 _ _
   | exact LeO.none _
   | refine LeO.ite ?_ ?_
   | refine LeO.bind ?_ (fun _ => ?_)
theorem utf8_ValidRune.mono : ∀ a0 k, LeO (utf8_ValidRune.f k a0) (utf8_ValidRune.f (k + 1) a0) := by
 intro a0 k
 have ih0 := utf8_ValidRune.mono_l k
 unfold utf8_ValidRune.f
 repeat' first
   | (with_reducible exact ih0 _ _)
   | (with_reducible exact LeO.refl _)
   | (with_reducible exact LeO.none _)
   | (with_reducible refine LeO.ite ?_ ?_)
   | (with_reducible refine LeO.bind ?_ (fun _ => ?_))
   | exact ih0 _ _
   | exact LeO.none _
   | refine LeO.ite ?_ ?_
   | refine LeO.bind ?_ (fun _ => ?_)
set_option maxHeartbeats 8000000 in
set_option maxRecDepth 100000 in
theorem utf8_ValidRune.calls (k : Nat) (a0 : Int) (r : Bool) (w : World) (h : utf8_ValidRune.f k a0 = some r) :
  Calls Tryd.prog 104 #[.int .i32 a0] w fun e w' => e = .returned (.bool r) ∧ Drawn0 w w' := by
 have H : (if 0 ≤ a0 then (utf8_ValidRune.j0 k a0 (decide (a0 < 55296))) else (utf8_ValidRune.j0 k a0 false)) = some r := h
 clear h
 have HC2 := Aside0.mk H
 clear H
 go_enter Tryd.func104, Tryd.ntmps104
 go_upto_region 1 with (fail)
 go_cut [3] (fun v3 wc => ∃ (kq : Nat) (x3_1 : Bool), v3 = .bool x3_1 ∧ Aside0 (utf8_ValidRune.j0 kq a0 x3_1 = some r) ∧ Aside0 (kq ≤ k) ∧ Drawn0 w wc)
 case first =>
  have H := HC2.out
  clear HC2
  by_cases c3 : 0 ≤ a0
  ·rw [if_pos c3] at H
   have c3b0 : decide (0 ≤ a0) = true := decide_eq_true c3
   clear c3
   (first | rw [c3b0] | (simp only [i64_w, i32_w]; rw [c3b0]) | skip)
   have H' := Aside0.mk H
   clear H
   go_wp2
   go_meet
   case rel => exact ⟨_, (decide (a0 < 55296)), (by first | rfl | (simp; done) | (simp [*]; done)), H', ⟨by first | omega | exact Nat.le_refl _⟩, by repeat (first | exact Drawn0.refl _ | apply Drawn0.step)⟩
  ·rw [if_neg c3] at H
   have c3b0 : decide (0 ≤ a0) = false := decide_eq_false c3
   clear c3
   (first | rw [c3b0] | (simp only [i64_w, i32_w]; rw [c3b0]) | skip)
   have H' := Aside0.mk H
   clear H
   go_wp2
   go_meet
   case rel => exact ⟨_, (false), (by first | rfl | (simp; done) | (simp [*]; done)), H', ⟨by first | omega | exact Nat.le_refl _⟩, by repeat (first | exact Drawn0.refl _ | apply Drawn0.step)⟩
 case rest =>
  clear HC2
  try clear c1
  try clear p2
  try clear c3
  try clear c3b0
  obtain ⟨kq, x3_1, rfl, HA, HJ1, ⟨mc1, rfl⟩⟩ := hcut
  cases kq with
  | zero => exact absurd HA.out (by simp [utf8_ValidRune.j0])
  | succ kj1 =>
   have H := HA.out
   clear HA
   simp only [utf8_ValidRune.j0] at H
   by_cases c4 : x3_1 = true
   ·subst c4
    have H1 : (some true) = some r := by rw [if_pos rfl] at H; exact H
    clear H
    have H := H1
    clear H1
    obtain rfl := Option.some.inj H
    go_wp2
    go_ret
    exact ⟨by first | rfl | (simp; done) | (simp [*]; done), by repeat (first | exact Drawn0.refl _ | apply Drawn0.step)⟩
   ·replace c4 := Bool.eq_false_iff.mpr c4
    subst c4
    have H1 : (if 57343 < a0 then (if a0 ≤ 1114111 then (some true) else (some false)) else (some false)) = some r := by rw [if_neg (show ¬ (false = true) by decide)] at H; exact H
    clear H
    have H := H1
    clear H1
    by_cases c5 : 57343 < a0
    ·rw [if_pos c5] at H
     have c5b0 : decide (57343 < a0) = true := decide_eq_true c5
     clear c5
     by_cases c6 : a0 ≤ 1114111
     ·rw [if_pos c6] at H
      have c6b0 : decide (a0 ≤ 1114111) = true := decide_eq_true c6
      clear c6
      obtain rfl := Option.some.inj H
      go_wp2
      go_ret
      exact ⟨by first | rfl | (simp; done) | (simp [*]; done), by repeat (first | exact Drawn0.refl _ | apply Drawn0.step)⟩
     ·rw [if_neg c6] at H
      have c6b0 : decide (a0 ≤ 1114111) = false := decide_eq_false c6
      clear c6
      obtain rfl := Option.some.inj H
      go_wp2
      go_ret
      exact ⟨by first | rfl | (simp; done) | (simp [*]; done), by repeat (first | exact Drawn0.refl _ | apply Drawn0.step)⟩
    ·rw [if_neg c5] at H
     have c5b0 : decide (57343 < a0) = false := decide_eq_false c5
     clear c5
     obtain rfl := Option.some.inj H
     go_wp2
     go_ret
     exact ⟨by first | rfl | (simp; done) | (simp [*]; done), by repeat (first | exact Drawn0.refl _ | apply Drawn0.step)⟩
end Go.Proofs.YtmocooihkobdjaaDoor.G
end
section
namespace Go.Proofs.YtmocooihkobdjaaDoor.G
open Go.RowKit Go.Proofs.YtmocooihkobdjaaDoorW.PrintWords Go.Proofs.YtmocooihkobdjaaDoorW.PrintLast Go.Proofs.YtmocooihkobdjaaDoorW.PrintMore
attribute [local go_sem] max2_int min2_int max_two min_two max_three min_three max_four min_four
set_option linter.unusedVariables false
set_option linter.unusedSimpArgs false
theorem request_Read.info23 : (Tryd.prog.info? 23).map (fun i => (i.zero, i.size, i.bytes)) = some (some (.slice none 0 0), 1, 24) := by kernel_rfl
theorem request_Read.info46 : (Tryd.prog.info? 46).map (fun i => (i.zero, i.size, i.bytes)) = some (some (.agg #[(.string ⟨#[]⟩), (.int .i64 0), (.string ⟨#[]⟩)]), 3, 40) := by kernel_rfl
theorem request_Read.info48 : (Tryd.prog.info? 48).map (fun i => (i.zero, i.size, i.bytes)) = some (some (.agg #[(.bool false), (.string ⟨#[]⟩), (.int .i64 0), (.string ⟨#[]⟩)]), 4, 48) := by kernel_rfl
def request_Read.St (base go : Nat) (v0 v1 v2 : Value) (L : List (List S46)) (F : List S46) (W : List S48) (w : World) : Prop :=
  w.heap[go]? = some (.cells #[v0, v1, v2] 26 (0, 0)) ∧ Kd.N (Kd.slice 46 k46) 23 w base (fun k => go < k ∧ some k ≠ v1.ownBlock ∧ some k ≠ v2.ownBlock) v0 L ∧ Kd.R k46 46 w base (fun k => go < k) v1 F ∧ Kd.R k48 48 w base (fun k => go < k) v2 W
section
variable {base go : Nat} {v0 v1 v2 : Value} {L : List (List S46)} {F : List S46} {W : List S48} {w w1 : World}
theorem request_Read.St_below (h : request_Read.St base go v0 v1 v2 L F W w) (hb : Below w.heap.size w w1) : request_Read.St base go v0 v1 v2 L F W w1 :=
  ⟨blk_below h.1 hb, Kd.N_below h.2.1 hb, Kd.R_below h.2.2.1 hb, Kd.R_below h.2.2.2 hb⟩
theorem request_Read.St_F {u : Value} {F' : List S46} (h : request_Read.St base go v0 v1 v2 L F W w) (ho : Kd.R k46 46 w1 base (fun k => go < k) u F') (hg : w.grownBy w1 v1.ownBlock) (hat : u.ownBlock = v1.ownBlock ∨ ∃ b, u.ownBlock = some b ∧ w.heap.size ≤ b) : request_Read.St base go v0 u v2 L F' W (w1.setCell ⟨go, 1, none⟩ u) := by
  obtain ⟨hb, hN, hF, hW⟩ := h
  have hb1 := blk_grown hb hg (Kd.R_ne hF hb (by decide))
  have hN1 := Kd.N_after (Kd.N_mono hN (ok' := fun k => (go < k ∧ some k ≠ v2.ownBlock) ∧ some k ≠ v1.ownBlock) (fun k hk => ⟨⟨hk.1, hk.2.2⟩, hk.2.1⟩)) hg hat
  have hW1 := Kd.R_over' hW (Kd.R_typed hF) (by decide) hg
  exact ⟨blk_put hb1 1 _ rfl, Kd.N_mono (Kd.N_far (p := ⟨go, 1, none⟩) hN1 (fun k hk => Nat.ne_of_gt hk.1.1) u) (fun k hk => ⟨hk.1.1, hk.2, hk.1.2⟩),
    Kd.R_far (p := ⟨go, 1, none⟩) ho (fun k hk => Nat.ne_of_gt hk) u, Kd.R_far (p := ⟨go, 1, none⟩) hW1 (fun k hk => Nat.ne_of_gt hk) u⟩
theorem request_Read.St_W {u : Value} {W' : List S48} (h : request_Read.St base go v0 v1 v2 L F W w) (ho : Kd.R k48 48 w1 base (fun k => go < k) u W') (hg : w.grownBy w1 v2.ownBlock) (hat : u.ownBlock = v2.ownBlock ∨ ∃ b, u.ownBlock = some b ∧ w.heap.size ≤ b) : request_Read.St base go v0 v1 u L F W' (w1.setCell ⟨go, 2, none⟩ u) := by
  obtain ⟨hb, hN, hF, hW⟩ := h
  have hb1 := blk_grown hb hg (Kd.R_ne hW hb (by decide))
  have hN1 := Kd.N_after (Kd.N_mono hN (ok' := fun k => (go < k ∧ some k ≠ v1.ownBlock) ∧ some k ≠ v2.ownBlock) (fun k hk => ⟨⟨hk.1, hk.2.1⟩, hk.2.2⟩)) hg hat
  have hF1 := Kd.R_over' hF (Kd.R_typed hW) (by decide) hg
  exact ⟨blk_put hb1 2 _ rfl, Kd.N_mono (Kd.N_far (p := ⟨go, 2, none⟩) hN1 (fun k hk => Nat.ne_of_gt hk.1.1) u) (fun k hk => ⟨hk.1.1, hk.1.2, hk.2⟩),
    Kd.R_far (p := ⟨go, 2, none⟩) hF1 (fun k hk => Nat.ne_of_gt hk) u, Kd.R_far (p := ⟨go, 2, none⟩) ho (fun k hk => Nat.ne_of_gt hk) u⟩
theorem request_Read.St_L {u : Value} {L' : List (List S46)} (h : request_Read.St base go v0 v1 v2 L F W w) (ho : Kd.N (Kd.slice 46 k46) 23 w1 base (fun k => go < k ∧ some k ≠ v1.ownBlock ∧ some k ≠ v2.ownBlock) u L') (hg : w.grownBy w1 v0.ownBlock) : request_Read.St base go u v1 v2 L' F W (w1.setCell ⟨go, 0, none⟩ u) := by
  obtain ⟨hb, hN, hF, hW⟩ := h
  have hb1 := blk_grown hb hg (Kd.N_ne hN hb (by decide))
  have hF1 := Kd.R_over' hF (Kd.N_typed hN) (by decide) hg
  have hW1 := Kd.R_over' hW (Kd.N_typed hN) (by decide) hg
  exact ⟨blk_put hb1 0 _ rfl, Kd.N_far (p := ⟨go, 0, none⟩) ho (fun k hk => Nat.ne_of_gt hk.1) u,
    Kd.R_far (p := ⟨go, 0, none⟩) hF1 (fun k hk => Nat.ne_of_gt hk) u, Kd.R_far (p := ⟨go, 0, none⟩) hW1 (fun k hk => Nat.ne_of_gt hk) u⟩
theorem request_Read.three {g : Nat} {a b c u0 u1 u2 : Value} (h : w.heap[g]? = some (.cells #[a, b, c] 26 (0, 0))) : (((w.setCell ⟨g, 0, none⟩ u0).setCell ⟨g, 1, none⟩ u1).setCell ⟨g, 2, none⟩ u2).heap[g]? = some (.cells #[u0, u1, u2] 26 (0, 0)) :=
  blk_put (blk_put (blk_put h 0 _ rfl) 1 _ rfl) 2 _ rfl
theorem request_Read.fresh_ok (h : request_Read.St base go v0 v1 v2 L F W w) (k : Nat) (hk : w.heap.size ≤ k) : (go < k ∧ some k ≠ v1.ownBlock ∧ some k ≠ v2.ownBlock) ∧ some k ≠ v0.ownBlock :=
  ⟨⟨Nat.lt_of_lt_of_le (blk_lt h.1) hk, fun e => absurd (Kd.R_lt h.2.2.1 k e.symm) (Nat.not_lt.2 hk), fun e => absurd (Kd.R_lt h.2.2.2 k e.symm) (Nat.not_lt.2 hk)⟩, fun e => absurd (Kd.N_lt h.2.1 k e.symm) (Nat.not_lt.2 hk)⟩
theorem request_Read.box_F {u : Value} {g j : Nat} {cs : Array Value} (h : request_Read.St base go v0 v1 v2 L F W w) (hg : w.grownBy w1 v1.ownBlock) (hb : w.heap[g]? = some (.cells cs 26 (0, 0))) (hne : g ≠ go) : (w1.setCell ⟨go, j, none⟩ u).heap[g]? = some (.cells cs 26 (0, 0)) :=
  (Below.heap_setCell w1 ⟨go, j, none⟩ u g hne).trans (blk_grown hb hg (Kd.R_ne h.2.2.1 hb (by decide)))
theorem request_Read.box_W {u : Value} {g j : Nat} {cs : Array Value} (h : request_Read.St base go v0 v1 v2 L F W w) (hg : w.grownBy w1 v2.ownBlock) (hb : w.heap[g]? = some (.cells cs 26 (0, 0))) (hne : g ≠ go) : (w1.setCell ⟨go, j, none⟩ u).heap[g]? = some (.cells cs 26 (0, 0)) :=
  (Below.heap_setCell w1 ⟨go, j, none⟩ u g hne).trans (blk_grown hb hg (Kd.R_ne h.2.2.2 hb (by decide)))
theorem request_Read.box_L {u : Value} {g j : Nat} {cs : Array Value} (h : request_Read.St base go v0 v1 v2 L F W w) (hg : w.grownBy w1 v0.ownBlock) (hb : w.heap[g]? = some (.cells cs 26 (0, 0))) (hne : g ≠ go) : (w1.setCell ⟨go, j, none⟩ u).heap[g]? = some (.cells cs 26 (0, 0)) :=
  (Below.heap_setCell w1 ⟨go, j, none⟩ u g hne).trans (blk_grown hb hg (Kd.N_ne h.2.1 hb (by decide)))
end
theorem request_Read.pa_ii (v : Value) (w : World) : (Instr.typeAssert (.iface 65 v) 77 65 true).run Tryd.prog w = .ok (.tuple #[v, .bool true]) w := by kernel_rfl
theorem request_Read.pa_fi (v : Value) (w : World) : (Instr.typeAssert (.iface 66 v) 77 65 true).run Tryd.prog w = .ok (.tuple #[.slice none 0 0, .bool false]) w := by kernel_rfl
theorem request_Read.pa_ff (v : Value) (w : World) : (Instr.typeAssert (.iface 66 v) 77 66 true).run Tryd.prog w = .ok (.tuple #[v, .bool true]) w := by kernel_rfl
theorem request_Read.pa_wi (v : Value) (w : World) : (Instr.typeAssert (.iface 68 v) 77 65 true).run Tryd.prog w = .ok (.tuple #[.slice none 0 0, .bool false]) w := by kernel_rfl
theorem request_Read.pa_wf (v : Value) (w : World) : (Instr.typeAssert (.iface 68 v) 77 66 true).run Tryd.prog w = .ok (.tuple #[.slice none 0 0, .bool false]) w := by kernel_rfl
theorem request_Read.pa_ww (v : Value) (w : World) : (Instr.typeAssert (.iface 68 v) 77 68 true).run Tryd.prog w = .ok (.tuple #[v, .bool true]) w := by kernel_rfl
def request_Read.Stands (gO : Nat) (w w' : World) : Prop := ∀ (g : Nat) (cs : Array Value) (t : TypeId), g ≠ gO → t ≠ 23 → t ≠ 46 → t ≠ 48 → w.heap[g]? = some (.cells cs t (0, 0)) → w'.heap[g]? = some (.cells cs t (0, 0))
section
variable {base go : Nat} {v0 v1 v2 : Value} {L : List (List S46)} {F : List S46} {W : List S48} {w w1 : World}
theorem request_Read.stands_L {u : Value} (h : request_Read.St base go v0 v1 v2 L F W w) (hg : w.grownBy w1 v0.ownBlock) : request_Read.Stands go w (w1.setCell ⟨go, 0, none⟩ u) := fun g cs t hne h1 _ _ hb =>
  (Below.heap_setCell w1 ⟨go, 0, none⟩ u g hne).trans (blk_grown hb hg (Kd.N_ne h.2.1 hb (Ne.symm h1)))
theorem request_Read.stands_F {u : Value} (h : request_Read.St base go v0 v1 v2 L F W w) (hg : w.grownBy w1 v1.ownBlock) : request_Read.Stands go w (w1.setCell ⟨go, 1, none⟩ u) := fun g cs t hne _ h1 _ hb =>
  (Below.heap_setCell w1 ⟨go, 1, none⟩ u g hne).trans (blk_grown hb hg (Kd.R_ne h.2.2.1 hb (Ne.symm h1)))
theorem request_Read.stands_W {u : Value} (h : request_Read.St base go v0 v1 v2 L F W w) (hg : w.grownBy w1 v2.ownBlock) : request_Read.Stands go w (w1.setCell ⟨go, 2, none⟩ u) := fun g cs t hne _ _ h1 hb =>
  (Below.heap_setCell w1 ⟨go, 2, none⟩ u g hne).trans (blk_grown hb hg (Kd.R_ne h.2.2.2 hb (Ne.symm h1)))
end
set_option maxHeartbeats 2000000 in
set_option maxRecDepth 100000 in
theorem request_Read.put_install (w0 w : World) (gO : Nat) (v0 v1 v2 : Value) (L : List (List S46)) (F : List S46) (W : List S48) (x : List (List S46)) (A : Option Addr) (c : Nat) (okp : Nat → Prop)
    (hS : request_Read.St w0.heap.size gO v0 v1 v2 L F W w) (hB : Below w0.heap.size w0 w) (hge : w0.heap.size ≤ gO) (hx : Kd.F (Kd.slice 46 k46) w okp A x.length x) (hok : ∀ k, okp k → (gO < k ∧ some k ≠ v1.ownBlock ∧ some k ≠ v2.ownBlock) ∧ some k ≠ v0.ownBlock) (hl : (L.length + x.length) * 24 ≤ 140737488355328) :
    Calls Tryd.prog 43 #[.pointer (some ⟨gO, 0, none⟩), .iface 65 (.slice A x.length c)] w fun e w' => e = .returned (.tuple #[]) ∧ ∃ u : Value, request_Read.St w0.heap.size gO u v1 v2 (L ++ x) F W w' ∧ Below w0.heap.size w0 w' ∧ request_Read.Stands gO w w' := by
  have HS := Aside0.mk hS
  have HB := Aside0.mk hB
  have HX := Aside0.mk hx
  have HK := Aside0.mk hok
  have HL := Aside0.mk hl
  have hc0 : w.cell? ⟨gO, 0, none⟩ = some v0 := (blk_cell hS.1 0).trans rfl
  have hz0 := blk_frozen hS.1 0
  clear hS hB hx hok hl
  have hta := request_Read.pa_ii
  go_enter Tryd.func43, Tryd.ntmps43
  go_wp2_with (at_builtin; refine Go.Proofs.YtmocooihkobdjaaDoor.AppTwo.N_append_rows_two (Kd.slice 46 k46) (w0 := w0) w0.heap.size rfl (.tmp 17) (.tmp 18) 22 65 23 (.slice none 0 0) 24 rfl Tryd.underlying22 Tryd.underlying65 request_Read.info23 rfl (by decide) (by omega) v0 L x _ _ _ (fun k => gO < k ∧ some k ≠ v1.ownBlock ∧ some k ≠ v2.ownBlock) okp rfl rfl HS.out.2.1 HX.out HK.out (fun k hk => (request_Read.fresh_ok HS.out k hk).1) HB.out (below_size HB.out) HL.out ?_; intro u w1 ho hb hg hat; obtain ⟨L9, hL9⟩ : ∃ L9, L ++ x = L9 := ⟨_, rfl⟩; rw [hL9] at ho; have H9 := Aside0.mk hL9; clear hL9; have s0 := Aside0.mk (request_Read.St_L HS.out ho hg); have s1 := Aside0.mk (request_Read.stands_L (u := u) HS.out hg); have s2 := Aside0.mk (below_set (j := 0) (v := u) hb hge); have hbo := blk_grown HS.out.1 hg (Kd.N_ne HS.out.2.1 HS.out.1 (by decide)); obtain ⟨Ao, co, eo⟩ := Kd.N_slice ho; subst eo; clear ho hb hg hat; have hc1 : w1.cell? ⟨gO, 0, none⟩ = some v0 := (blk_cell hbo 0).trans rfl; have hz1 := blk_frozen hbo 0; clear hbo)
  go_end0
  refine ⟨rfl, .slice Ao L9.length co, ?_, s2.out, s1.out⟩
  rw [H9.out]
  exact s0.out
set_option maxHeartbeats 2000000 in
set_option maxRecDepth 100000 in
theorem request_Read.put_forbid (w0 w : World) (gO : Nat) (v0 v1 v2 : Value) (L : List (List S46)) (F : List S46) (W : List S48) (x : List S46) (A : Option Addr) (c : Nat)
    (hS : request_Read.St w0.heap.size gO v0 v1 v2 L F W w) (hB : Below w0.heap.size w0 w) (hge : w0.heap.size ≤ gO) (hx : Kd.C k46 w A x.length x) (hl : (F.length + x.length) * 40 ≤ 140737488355328) :
    Calls Tryd.prog 43 #[.pointer (some ⟨gO, 0, none⟩), .iface 66 (.slice A x.length c)] w fun e w' => e = .returned (.tuple #[]) ∧ ∃ u : Value, request_Read.St w0.heap.size gO v0 u v2 L (F ++ x) W w' ∧ Below w0.heap.size w0 w' ∧ request_Read.Stands gO w w' := by
  have HS := Aside0.mk hS
  have HB := Aside0.mk hB
  have HX := Aside0.mk hx
  have HL := Aside0.mk hl
  have hc0 : w.cell? ⟨gO, 1, none⟩ = some v1 := (blk_cell hS.1 1).trans rfl
  have hz0 := blk_frozen hS.1 1
  clear hS hB hx hl
  have hta := request_Read.pa_fi
  have htb := request_Read.pa_ff
  go_enter Tryd.func43, Tryd.ntmps43
  go_wp2_with (at_builtin; refine Go.Proofs.YtmocooihkobdjaaDoor.AppTwo.R_append_rows_two k46 (w0 := w0) w0.heap.size rfl (.tmp 29) (.tmp 30) 23 66 46 (.agg #[(.string ⟨#[]⟩), (.int .i64 0), (.string ⟨#[]⟩)]) 40 rfl Tryd.underlying23 Tryd.underlying66 request_Read.info46 rfl (by decide) (by omega) v1 F x _ _ _ (fun k => gO < k) (fun _ => False) rfl rfl HS.out.2.2.1 HX.out (fun _ _ h => h) (fun _ h => h.elim) (fun k hk => (request_Read.fresh_ok HS.out k hk).1.1) HB.out (below_size HB.out) HL.out ?_; intro u w1 ho hb hg hat; obtain ⟨L9, hL9⟩ : ∃ L9, F ++ x = L9 := ⟨_, rfl⟩; rw [hL9] at ho; have H9 := Aside0.mk hL9; clear hL9; have s0 := Aside0.mk (request_Read.St_F HS.out ho hg hat); have s1 := Aside0.mk (request_Read.stands_F (u := u) HS.out hg); have s2 := Aside0.mk (below_set (j := 1) (v := u) hb hge); have hbo := blk_grown HS.out.1 hg (Kd.R_ne HS.out.2.2.1 HS.out.1 (by decide)); obtain ⟨Ao, co, eo⟩ := Kd.R_slice ho; subst eo; clear ho hb hg hat; have hc1 : w1.cell? ⟨gO, 1, none⟩ = some v1 := (blk_cell hbo 1).trans rfl; have hz1 := blk_frozen hbo 1; clear hbo)
  go_end0
  refine ⟨rfl, .slice Ao L9.length co, ?_, s2.out, s1.out⟩
  rw [H9.out]
  exact s0.out
def request_Read.T12 : Bool × List (List Nat × List Nat) := (true, [([], []), ([], []), ([1], [1]), ([2], [2]), ([3], [3]), ([], []), ([5], [5]), ([], []), ([6, 7], [6, 7]), ([8], [8]), ([4, 9], [4, 9]), ([0, 0, 1, 2, 3, 4, 5, 6, 7, 8, 9, 10], [0]), ([11, 0, 1, 2, 3, 4, 5, 6, 7, 8, 9, 10], [11]), ([12, 10, 10, 0, 1, 2, 3, 4, 5, 6, 7, 8, 9, 10], [10, 12])])
def request_Read.B12 : List Nat := [0, 0, 2, 6, 14, 0, 32, 0, 224, 480, 1022, 2047, 4095, 8191]
theorem request_Read.tab12 : rtab .any (opsOf Tryd.f43 12) = request_Read.T12 := by kernel_rfl
theorem request_Read.bits12 : waitsOk request_Read.T12.2 request_Read.B12 = true := by kernel_rfl
def request_Read.wishes (b : Bool) (x : List S46) : List S48 := x.map fun r => ⟨b, r⟩
set_option maxHeartbeats 2000000 in
set_option maxRecDepth 100000 in
theorem request_Read.put_wish (w0 w : World) (gO : Nat) (v0 v1 v2 : Value) (L : List (List S46)) (F : List S46) (W : List S48) (b : Bool) (x : List S46) (A : Option Addr) (c : Nat) (okp : Nat → Prop)
    (hS : request_Read.St w0.heap.size gO v0 v1 v2 L F W w) (hB : Below w0.heap.size w0 w) (hge : w0.heap.size ≤ gO) (hx : Kd.F k46 w okp A x.length x) (hok : ∀ k, okp k → gO < k ∧ some k ≠ v2.ownBlock) (hl : (W.length + x.length) * 48 ≤ 140737488355328) :
    Calls Tryd.prog 43 #[.pointer (some ⟨gO, 0, none⟩), .iface 68 (.agg #[.bool b, .slice A x.length c])] w fun e w' => e = .returned (.tuple #[]) ∧ ∃ u : Value, request_Read.St w0.heap.size gO v0 v1 u L F (W ++ request_Read.wishes b x) w' ∧ Below w0.heap.size w0 w' ∧ request_Read.Stands gO w w' := by
  have HS := Aside0.mk hS
  have HB := Aside0.mk hB
  have HX := Aside0.mk hx
  have HK := Aside0.mk hok
  have HL := Aside0.mk hl
  have hlen := (hx w (fun _ _ _ => rfl)).2.1
  clear hS hB hx hok hl
  have hta := request_Read.pa_wi
  have htb := request_Read.pa_wf
  have htc := request_Read.pa_ww
  have hu46 := Tryd.underlying46
  have hu48 := Tryd.underlying48
  have hu68 := Tryd.underlying68
  go_enter Tryd.func43, Tryd.ntmps43
  have HBW := Aside0.mk (blk_new w (.cells #[.bool b, .slice A x.length c] 68 (0, 0)))
  go_wp2
  have HLTW := Aside0.mk (show gO < w.heap.size from blk_lt HS.out.1)
  go_loopg [40] x.length (fun gg s40 wi => ∃ (y : Nat) (u : Value), s40 = .int .i64 (y : Int) ∧ y ≤ x.length ∧ x.length - y ≤ gg ∧ Aside0 (request_Read.St w0.heap.size gO v0 v1 u L F (W ++ request_Read.wishes b (x.take y)) wi) ∧ Aside0 (wi.heap[w.heap.size]? = some (.cells #[.bool b, .slice A x.length c] 68 (0, 0))) ∧ Aside0 (Below w0.heap.size w0 wi) ∧ Aside0 (request_Read.Stands gO w wi) ∧ Aside0 (∀ k, okp k → k < w.heap.size → wi.heap[k]? = w.heap[k]?) ∧ Aside0 (∀ k, okp k → k < w.heap.size → some k ≠ u.ownBlock))
  case atStart =>
    refine ⟨0, v2, rfl, by omega, by omega, ⟨?_⟩, HBW, ⟨below_alloc HB.out _⟩, ⟨fun g cs t _ _ _ _ h => blk_alloc h _⟩, ⟨fun k _ hk => Below.heap_alloc w _ k hk⟩, ⟨fun k hk _ => (HK.out k hk).2⟩⟩
    rw [List.take_zero]
    show request_Read.St w0.heap.size gO v0 v1 v2 L F (W ++ []) _
    rw [List.append_nil]
    exact request_Read.St_below HS.out (below_alloc (Below.refl _ _) _)
  case round =>
    clear HBW HS HB
    obtain ⟨y, u, rfl, hy, hgy, HS, HBW, HB, HST, HKP, HNE⟩ := hrel
    by_cases hly : y < x.length
    · obtain ⟨gk2, rfl⟩ : ∃ g, gk = g + 1 := ⟨gk - 1, by omega⟩
      have HY := Aside0.mk (show y + 1 ≤ x.length ∧ x.length - (y + 1) ≤ gk2 ∧ wrap64 ((y : Int) + 1) = ((y + 1 : Nat) : Int) by refine ⟨by omega, by omega, ?_⟩; unfold wrap64; omega)
      have HW2 := Aside0.mk (show ((W ++ request_Read.wishes b (x.take y)).length + 1) * 48 ≤ 140737488355328 by have h1 := HL.out; rw [List.length_append]; unfold request_Read.wishes; rw [List.length_map, List.length_take]; omega)
      have h0 : (0 : Int) ≤ (y : Int) := by omega
      have h1 : (y : Int) < (x.length : Int) := by omega
      obtain ⟨ad, ead, hx0, hx1, hx2⟩ := at_T46 (HX.out wr (fun k hk hlt => HKP.out k hk hlt)) (y : Int) h0 h1
      cases ead
      simp only [Int.toNat_natCast] at hx0 hx1 hx2
      have q0 : decide ((y : Int) < (x.length : Int)) = true := decide_eq_true h1
      have q1 := eq_true h0
      have q2 := eq_true h1
      have HO := Aside0.mk (show x.take (y + 1) = x.take y ++ [rd_T46 x (y : Int)] by rw [List.take_succ_eq_append_getElem hly]; congr 2; unfold rd_T46; rw [Int.toNat_natCast, List.getD_eq_getElem?_getD, List.getElem?_eq_getElem hly, Option.getD_some])
      have hc2 : wr.cell? ⟨gO, 2, none⟩ = some u := (blk_cell HS.out.1 2).trans rfl
      have hz2 := blk_frozen HS.out.1 2
      have hw0 : wr.cell? ⟨w.heap.size, 0, none⟩ = some (.bool b) := (blk_cell HBW.out 0).trans rfl
      have hn1 : w.heap.size ≠ gO := by have h2 := HLTW.out; omega
      have hn2 : wr.heap.size ≠ gO := by have h2 := blk_lt HS.out.1; omega
      have hn3 : wr.heap.size ≠ w.heap.size := by have h2 := blk_lt HBW.out; omega
      have hn4 := hn1.symm
      have hn5 := hn2.symm
      have hn6 := hn3.symm
      clear h0 h1
      go_wp2
      have hb0 : Below wr.heap.size wr (wr.alloc (.cells #[.string (rd_T46 x (y : Int)).f0, .int .i64 (rd_T46 x (y : Int)).f1, .string (rd_T46 x (y : Int)).f2] 46 (0, 0))).drew := below_drew1 (below_alloc (Below.refl _ _) _)
      have n0 := request_Read.St_below HS.out hb0
      have n1 := blk_below HBW.out hb0
      have n2 : Below w0.heap.size w0 (wr.alloc (.cells #[.string (rd_T46 x (y : Int)).f0, .int .i64 (rd_T46 x (y : Int)).f1, .string (rd_T46 x (y : Int)).f2] 46 (0, 0))).drew := below_drew1 (below_alloc HB.out _)
      have n3 : (wr.alloc (.cells #[.string (rd_T46 x (y : Int)).f0, .int .i64 (rd_T46 x (y : Int)).f1, .string (rd_T46 x (y : Int)).f2] 46 (0, 0))).drew.heap[wr.heap.size]? = some (.cells #[.string (rd_T46 x (y : Int)).f0, .int .i64 (rd_T46 x (y : Int)).f1, .string (rd_T46 x (y : Int)).f2] 46 (0, 0)) := blk_drew (blk_new wr _)
      refine start_ (n := 14) (S := fun w' => w'.cell? ⟨gO, 2, none⟩ = some u ∧ w'.cell? ⟨w.heap.size, 0, none⟩ = some (.bool b) ∧ w'.cell? ⟨wr.heap.size, 0, none⟩ = some (.string (rd_T46 x (y : Int)).f0) ∧ w'.cell? ⟨wr.heap.size, 1, none⟩ = some (.int .i64 (rd_T46 x (y : Int)).f1) ∧ w'.cell? ⟨wr.heap.size, 2, none⟩ = some (.string (rd_T46 x (y : Int)).f2)) (ds := [13]) #[false, false, false, false, false, false, false, false, false, false, false, false, false, false] (by kernel_rfl) rfl rfl ⟨(blk_cell n0.1 2).trans rfl, (blk_cell n1 0).trans rfl, (blk_cell n3 0).trans rfl, (blk_cell n3 1).trans rfl, (blk_cell n3 2).trans rfl⟩ (fun hHeld => ?_); refine with_tabW request_Read.tab12 request_Read.bits12 (fun HT_ HW_ => ?_)
      generalize (wr.alloc (.cells #[.string (rd_T46 x (y : Int)).f0, .int .i64 (rd_T46 x (y : Int)).f1, .string (rd_T46 x (y : Int)).f2] 46 (0, 0))).drew = w50 at hb0 n0 n1 n2 n3 hHeld ⊢
      have HB0 := Aside0.mk hb0
      have N0 := Aside0.mk n0
      have N1 := Aside0.mk n1
      have N2 := Aside0.mk n2
      have N3 := Aside0.mk n3
      clear hb0 n0 n1 n2 n3
      refine pure_ (i := 0) (N := some 44) (v := ?_) (a' := ?_) #[true, false, false, false, false, false, false, false, false, false, false, false, false, false] rfl rfl (any_of HT_.out (by kernel_rfl)) (fun _ _ _ h => h) (Or.inl ⟨by rfl, ?_⟩) ?_ ?_
      rotate_left
      · intro w'
        go_simp
        with_reducible rfl
      rotate_left
      · simp only [Act.put, List.setIfInBounds_toArray, List.set_cons_zero, List.set_cons_succ, i64_w, i32_w]
        rfl
      refine pure_ (i := 1) (N := some 45) (v := ?_) (a' := ?_) #[true, true, false, false, false, false, false, false, false, false, false, false, false, false] rfl rfl (any_of HT_.out (by kernel_rfl)) (fun _ _ _ h => h) (Or.inl ⟨by rfl, ?_⟩) ?_ ?_
      rotate_left
      · intro w'
        go_simp
        with_reducible rfl
      rotate_left
      · simp only [Act.put, List.setIfInBounds_toArray, List.set_cons_zero, List.set_cons_succ, i64_w, i32_w]
        rfl
      refine pure_ (i := 2) (N := some 46) (v := ?_) (a' := ?_) #[true, true, true, false, false, false, false, false, false, false, false, false, false, false] rfl rfl (any_of HT_.out (by kernel_rfl)) (fun _ _ _ h => h) (Or.inl ⟨by rfl, ?_⟩) ?_ ?_
      rotate_left
      · intro w'
        go_simp
        with_reducible rfl
      rotate_left
      · simp only [Act.put, List.setIfInBounds_toArray, List.set_cons_zero, List.set_cons_succ, i64_w, i32_w]
        rfl
      refine pure_ (i := 3) (N := some 47) (v := ?_) (a' := ?_) #[true, true, true, true, false, false, false, false, false, false, false, false, false, false] rfl rfl (any_of HT_.out (by kernel_rfl)) (fun _ _ _ h => h) (Or.inl ⟨by rfl, ?_⟩) ?_ ?_
      rotate_left
      · intro w'
        go_simp
        with_reducible rfl
      rotate_left
      · simp only [Act.put, List.setIfInBounds_toArray, List.set_cons_zero, List.set_cons_succ, i64_w, i32_w]
        rfl
      refine pure_ (i := 5) (N := some 49) (v := ?_) (a' := ?_) #[true, true, true, true, false, true, false, false, false, false, false, false, false, false] rfl rfl (any_of HT_.out (by kernel_rfl)) (fun _ _ _ h => h) (Or.inl ⟨by rfl, ?_⟩) ?_ ?_
      rotate_left
      · intro w'
        go_simp
        with_reducible rfl
      rotate_left
      · simp only [Act.put, List.setIfInBounds_toArray, List.set_cons_zero, List.set_cons_succ, i64_w, i32_w]
        rfl
      refine take_ (i := 4) (N := some 48) (v := ?_) (a' := ?_) #[true, true, true, true, true, true, false, false, false, false, false, false, false, false] rfl rfl (take_ofW HT_.out HW_.out (by kernel_rfl)) (fun _ _ _ h => h) (Or.inl ⟨by rfl, ?_⟩) hHeld ?_ ?_
      rotate_left
      · rintro w' ⟨s0, s1, s2, s3, s4⟩
        go_simp
        with_reducible rfl
      rotate_left
      · simp only [Act.put, List.setIfInBounds_toArray, List.set_cons_zero, List.set_cons_succ, i64_w, i32_w]
        rfl
      refine take_ (i := 6) (N := some 50) (v := ?_) (a' := ?_) #[true, true, true, true, true, true, true, false, false, false, false, false, false, false] rfl rfl (take_ofW HT_.out HW_.out (by kernel_rfl)) (fun _ _ _ h => h) (Or.inl ⟨by rfl, ?_⟩) hHeld ?_ ?_
      rotate_left
      · rintro w' ⟨s0, s1, s2, s3, s4⟩
        go_simp
        with_reducible rfl
      rotate_left
      · simp only [Act.put, List.setIfInBounds_toArray, List.set_cons_zero, List.set_cons_succ, i64_w, i32_w]
        rfl
      refine take_ (i := 7) (N := some 51) (v := ?_) (a' := ?_) #[true, true, true, true, true, true, true, true, false, false, false, false, false, false] rfl rfl (take_ofW HT_.out HW_.out (by kernel_rfl)) (fun _ _ _ h => h) (Or.inl ⟨by rfl, ?_⟩) hHeld ?_ ?_
      rotate_left
      · rintro w' ⟨s0, s1, s2, s3, s4⟩
        go_simp
        with_reducible rfl
      rotate_left
      · simp only [Act.put, List.setIfInBounds_toArray, List.set_cons_zero, List.set_cons_succ, i64_w, i32_w]
        rfl
      refine pure_ (i := 8) (N := some 52) (v := ?_) (a' := ?_) #[true, true, true, true, true, true, true, true, true, false, false, false, false, false] rfl rfl (any_of HT_.out (by kernel_rfl)) (fun _ _ _ h => h) (Or.inl ⟨by rfl, ?_⟩) ?_ ?_
      rotate_left
      · intro w'
        go_simp
        with_reducible rfl
      rotate_left
      · simp only [Act.put, List.setIfInBounds_toArray, List.set_cons_zero, List.set_cons_succ, i64_w, i32_w]
        rfl
      refine one_ (i := 9) (N := some 53) #[true, true, true, true, true, true, true, true, true, true, false, false, false, false] rfl rfl (one_of HT_.out (by kernel_rfl)) (by decide) (fun K hK => ?_)
      refine value_ (w1 := ?_) (v := ?_) (by rfl) rfl ?_ ?_
      rotate_left 2
      · go_simp
        constructor
        · rfl
        · rfl
      refine hK.out _ _ ⟨(blk_cell (blk_alloc N0.out.1 _) 2).trans rfl, (blk_cell (blk_alloc N1.out _) 0).trans rfl, (blk_cell (blk_alloc N3.out _) 0).trans rfl, (blk_cell (blk_alloc N3.out _) 1).trans rfl, (blk_cell (blk_alloc N3.out _) 2).trans rfl⟩ (fun hHeld => ?_)
      clear hK K
      refine norm_ (a' := ?_) ?_ ?_
      rotate_left
      · show Act.put _ (some 53) _ = _
        simp only [Act.put, List.setIfInBounds_toArray, List.set_cons_zero, List.set_cons_succ, i64_w, i32_w]
        rfl
      refine one_ (i := 10) (N := some 54) #[true, true, true, true, true, true, true, true, true, true, true, false, false, false] rfl rfl (one_of HT_.out (by kernel_rfl)) (by decide) (fun K hK => ?_)
      refine Kd.R_append_step k48 (w0 := w0) w0.heap.size (by rfl) (.tmp 48) (.tmp 53) 24 48 (.agg #[(.bool false), (.string ⟨#[]⟩), (.int .i64 0), (.string ⟨#[]⟩)]) 48 rfl Tryd.underlying24 request_Read.info48 rfl (by decide) (by omega) u (W ++ request_Read.wishes b (x.take y)) (⟨b, rd_T46 x (y : Int)⟩ : S48) [.bool b, .string (rd_T46 x (y : Int)).f0, .int .i64 (rd_T46 x (y : Int)).f1, .string (rd_T46 x (y : Int)).f2] (fun k => gO < k) (fun _ => False) rfl rfl (k48_mkM _ _ _ (⟨b, rd_T46 x (y : Int)⟩ : S48)) (fun _ hk => hk.elim) (fun k hk => (request_Read.fresh_ok N0.out k hk).1.1) N0.out.2.2.2 N2.out (below_size N2.out) HW2.out ?_
      intro u9 w52 ho hb hg hat
      obtain ⟨L9, hL9⟩ : ∃ L9, (W ++ request_Read.wishes b (x.take y)) ++ [(⟨b, rd_T46 x (y : Int)⟩ : S48)] = L9 := ⟨_, rfl⟩
      rw [hL9] at ho
      have H9 := Aside0.mk hL9
      clear hL9
      have s0 := Aside0.mk (request_Read.St_W N0.out ho hg hat)
      have s1 := Aside0.mk (request_Read.stands_W (u := u9) N0.out hg)
      have s2 := Aside0.mk (below_set (j := 2) (v := u9) hb hge)
      have hbo := blk_grown N0.out.1 hg (Kd.R_ne N0.out.2.2.2 N0.out.1 (by decide))
      have hbw := blk_grown N1.out hg (Kd.R_ne N0.out.2.2.2 N1.out (by decide))
      have hbr := blk_grown N3.out hg (Kd.R_ne N0.out.2.2.2 N3.out (by decide))
      have s3 := Aside0.mk (show ∀ k, okp k → k < w.heap.size → (w52.setCell ⟨gO, 2, none⟩ u9).heap[k]? = w.heap[k]? from fun k hk hlt => (Below.heap_setCell w52 ⟨gO, 2, none⟩ u9 k (Nat.ne_of_gt (HK.out k hk).1)).trans ((hg.block k (Nat.lt_of_lt_of_le (Nat.lt_trans hlt (blk_lt HBW.out)) HB0.out.size) (HNE.out k hk hlt)).trans ((HB0.out.block k (Nat.lt_trans hlt (blk_lt HBW.out))).trans (HKP.out k hk hlt))))
      have s4 := Aside0.mk (show ∀ k, okp k → k < w.heap.size → some k ≠ u9.ownBlock from fun k hk hlt e => by
        rcases hat with h | ⟨q, h, hle⟩
        · exact HNE.out k hk hlt (e.trans h)
        · rw [h] at e
          injection e with e
          have h7 := blk_lt HBW.out
          have h8 := HB0.out.size
          omega)
      obtain ⟨Ao, co, eo⟩ := Kd.R_slice ho
      subst eo
      clear ho hb hg hat
      refine hK.out _ _ ⟨(blk_cell hbo 2).trans rfl, (blk_cell hbw 0).trans rfl, (blk_cell hbr 0).trans rfl, (blk_cell hbr 1).trans rfl, (blk_cell hbr 2).trans rfl⟩ (fun hHeld => ?_)
      clear hK K
      refine norm_ (a' := ?_) ?_ ?_
      rotate_left
      · show Act.put _ (some 54) _ = _
        simp only [Act.put, List.setIfInBounds_toArray, List.set_cons_zero, List.set_cons_succ, i64_w, i32_w]
        rfl
      refine pure_ (i := 11) (N := some 55) (v := ?_) (a' := ?_) #[true, true, true, true, true, true, true, true, true, true, true, true, false, false] rfl rfl (any_of HT_.out (by kernel_rfl)) (fun _ _ _ h => h) (Or.inl ⟨by rfl, ?_⟩) ?_ ?_
      rotate_left
      · intro w'
        go_simp
        with_reducible rfl
      rotate_left
      · simp only [Act.put, List.setIfInBounds_toArray, List.set_cons_zero, List.set_cons_succ, i64_w, i32_w]
        rfl
      refine pure_ (i := 12) (N := some 56) (v := ?_) (a' := ?_) #[true, true, true, true, true, true, true, true, true, true, true, true, true, false] rfl rfl (any_of HT_.out (by kernel_rfl)) (fun _ _ _ h => h) (Or.inl ⟨by rfl, ?_⟩) ?_ ?_
      rotate_left
      · intro w'
        go_simp
        with_reducible rfl
      rotate_left
      · simp only [Act.put, List.setIfInBounds_toArray, List.set_cons_zero, List.set_cons_succ, i64_w, i32_w]
        rfl
      refine last_ (i := 13) (N := none) #[true, true, true, true, true, true, true, true, true, true, true, true, true, true] rfl rfl (one_of HT_.out (by kernel_rfl)) (by decide) (fun K hK => ?_)
      have hs55 : w52.cell? ⟨gO, 2, none⟩ = some u := (blk_cell hbo 2).trans rfl
      have hfs55 := blk_frozen hbo 2
      refine skip_ (w1 := ?_) (by rfl) rfl ?_ ?_
      rotate_left
      · go_simp
        rfl
      refine hK.out _ _ ?_
      clear hK K
      refine done_ (done_of HT_.out (by kernel_rfl)) ?_
      try go_wp2
      go_roundg gk2
      case measure => exact Nat.lt_succ_self gk2
      case rel =>
        have e : W ++ request_Read.wishes b (x.take (y + 1)) = L9 := by
          rw [← H9.out, HO.out]
          unfold request_Read.wishes
          rw [List.map_append, List.append_assoc]
          rfl
        refine ⟨y + 1, .slice Ao L9.length co, (by first | exact congrArg (Value.int .i64) HY.out.2.2 | rfl), HY.out.1, HY.out.2.1, ⟨?_⟩, ⟨s1.out _ _ _ (by have h2 := HLTW.out; omega) (by decide) (by decide) (by decide) N1.out⟩, s2, ⟨fun g cs t hne a1 a2 a3 hq => s1.out g cs t hne a1 a2 a3 (blk_below (HST.out g cs t hne a1 a2 a3 hq) HB0.out)⟩, s3, s4⟩
        rw [e]
        exact s0.out
    · have q0 : decide ((y : Int) < (x.length : Int)) = false := decide_eq_false (by omega)
      have q2 : ((y : Int) < (x.length : Int)) = False := eq_false (by omega)
      obtain rfl : y = x.length := by omega
      rw [List.take_length] at HS
      go_wp2
      go_end0
      exact ⟨rfl, _, HS.out, HB.out, HST.out⟩
set_option maxHeartbeats 2000000 in
set_option maxRecDepth 100000 in
theorem request_Read.index_rune_error (w : World) :
    Calls Tryd.prog 86 #[.string ⟨#[32, 9]⟩, .int .i32 65533] w fun e w' => e = .returned (.int .i64 (-1)) ∧ Below w.heap.size w w' := by
  go_enter Tryd.func86, Tryd.ntmps86
  go_wp2
  go_loopw [] (fun wr => ∃ pos : Nat, Hid (wr = w.iter ⟨#[32, 9]⟩ pos) ∧ pos ≤ 2) (fun wr => 2 - wr.iterPos w.heap.size)
  case atStart => exact ⟨0, rfl, by omega⟩
  case round =>
    obtain ⟨pos, hw, hf⟩ := hrel
    obtain rfl := hw.out
    clear hw
    by_cases hp : pos < 2
    · have hps : pos < (⟨#[32, 9]⟩ : ByteArray).size := hp
      have hnx := fun ty => run_next_any (P := Tryd.prog) w ⟨#[32, 9]⟩ pos ty hps
      have e : pos = 0 ∨ pos = 1 := by omega
      have hd : (Utf8.decode ⟨#[32, 9]⟩ pos).2 = 1 ∧ ((((Utf8.decode ⟨#[32, 9]⟩ pos).1 : Nat) : Int) == 65533) = false := by
        rcases e with rfl | rfl
        · exact ⟨by decide, by decide⟩
        · exact ⟨by decide, by decide⟩
      have hd2 := hd.2
      have HD := Lib.hid hd.1
      clear hd e
      go_wp2
      go_roundw
      case rel => exact ⟨pos + (Utf8.decode ⟨#[32, 9]⟩ pos).2, rfl, by rw [HD.out]; omega⟩
      case measure =>
        simp
        rw [HD.out]
        omega
    · have hps : ¬ pos < (⟨#[32, 9]⟩ : ByteArray).size := hp
      have hnx := fun ty => run_next_end (P := Tryd.prog) w ⟨#[32, 9]⟩ pos ty hps
      go_wp2
      go_ret
      exact ⟨rfl, ((Below.refl _ w).alloc (Nat.le_refl _) _)⟩
def request_Read.Tr6 : Bool × List (List Nat × List Nat) := (true, [([], []), ([], []), ([0, 1], [0, 1]), ([], []), ([], []), ([3, 4], [3, 4]), ([2, 5], [2, 5])])
def request_Read.Br6 : List Nat := [0, 0, 3, 0, 0, 24, 63]
theorem request_Read.tabr6 : rtab .any (opsOf Tryd.f86 6) = request_Read.Tr6 := by kernel_rfl
theorem request_Read.bitsr6 : waitsOk request_Read.Tr6.2 request_Read.Br6 = true := by kernel_rfl
def request_Read.Tr7 : Bool × List (List Nat × List Nat) := (true, [([], []), ([], []), ([1], [1]), ([0, 2], [0, 2]), ([], []), ([], []), ([4, 5], [4, 5]), ([3, 6], [3, 6]), ([7, 7, 0, 1, 2, 3, 4, 5, 6, 7], [7])])
def request_Read.Br7 : List Nat := [0, 0, 2, 7, 0, 0, 48, 127, 255]
theorem request_Read.tabr7 : rtab .any (opsOf Tryd.f86 7) = request_Read.Tr7 := by kernel_rfl
theorem request_Read.bitsr7 : waitsOk request_Read.Tr7.2 request_Read.Br7 = true := by kernel_rfl
set_option maxHeartbeats 2000000 in
set_option maxRecDepth 100000 in
theorem request_Read.index_rune_high (c : Nat) (h1 : 128 ≤ c) (h2 : c ≤ 1114111) (h3 : c < 55296 ∨ 57344 ≤ c) (h4 : c ≠ 65533) (w : World) :
    Calls Tryd.prog 86 #[.string ⟨#[32, 9]⟩, .int .i32 (c : Int)] w fun e w' => e = .returned (.int .i64 (-1)) ∧ Below w.heap.size w w' := by
  have q0 : (0 ≤ (c : Int)) = True := eq_true (by omega)
  have q1 : decide ((c : Int) < 128) = false := decide_eq_false (by omega)
  have q2 : (((c : Int) == 65533)) = false := by simp; omega
  have q3 : ((c : Int) < 128) = False := eq_false (by omega)
  have hv : utf8_ValidRune.f 1 (c : Int) = some true := by
    unfold utf8_ValidRune.f
    rw [if_pos (by omega)]
    rcases h3 with h | h
    · have e : decide ((c : Int) < 55296) = true := decide_eq_true (by omega)
      rw [e]
      rfl
    · have e : decide ((c : Int) < 55296) = false := decide_eq_false (by omega)
      have e1 : (57343 : Int) < (c : Int) := by omega
      have e2 : (c : Int) ≤ 1114111 := by omega
      rw [e]
      show (if false = true then some true else if (57343 : Int) < (c : Int) then (if (c : Int) ≤ 1114111 then some true else some false) else some false) = some true
      rw [if_neg (by decide), if_pos e1, if_pos e2]
  go_enter Tryd.func86, Tryd.ntmps86
  go_upto_region 1 with (go_at_call 104; refine (utf8_ValidRune.calls 1 (c : Int) true _ hv).mono ?_; rintro e w' ⟨rfl, ⟨nd, rfl⟩⟩)
  (try simp only [Act.put, List.setIfInBounds_toArray, List.set_cons_zero, List.set_cons_succ])
  have hvd : Utf8.valid (c : Int) = true := by unfold Utf8.valid; rcases h3 with h | h <;> simp <;> omega
  by_cases k1 : c < 2048
  · obtain ⟨x, y, hrs, hy⟩ : ∃ x y : UInt8, Utf8.encode (c : Int) = ⟨#[x, y]⟩ ∧ (9 : Int) ≠ (y.toNat : Int) := by
      refine ⟨UInt8.ofNat (0xC0 + c / 64), UInt8.ofNat (0x80 + c % 64), ?_, ?_⟩
      · unfold Utf8.encode
        simp only [hvd, if_true, Int.toNat_natCast]
        rw [if_neg (by omega), if_pos (by omega)]
      · rw [UInt8.toNat_ofNat']
        omega
    apply wp_scope_straight
    go_wp2
    go_loopg [9, 10] 0 (fun gg s9 s10 wr => s9 = .int .i64 1 ∧ s10 = .int .i64 0 ∧ Hid (wr = w.drewN nd))
    case atStart => exact ⟨rfl, rfl, rfl⟩
    case round =>
      obtain ⟨rfl, rfl, hw⟩ := hrel
      obtain rfl := hw.out
      clear hw
      go_wp2
      apply wp_scope_straight
      go_wp2
      refine start_ (n := 7) (S := fun _ => True) (ds := []) #[false, false, false, false, false, false, false] (by kernel_rfl) rfl rfl trivial (fun hHeld => ?_); refine with_tabW request_Read.tabr6 request_Read.bitsr6 (fun HT_ HW_ => ?_)
      refine pure_ (i := 0) (N := some 27) (v := ?_) (a' := ?_) #[true, false, false, false, false, false, false] rfl rfl (any_of HT_.out (by kernel_rfl)) (fun _ _ _ h => h) (Or.inl ⟨by rfl, ?_⟩) ?_ ?_
      rotate_left
      · intro w'
        go_simp
        with_reducible rfl
      rotate_left
      · simp only [Act.put, List.setIfInBounds_toArray, List.set_cons_zero, List.set_cons_succ, i64_w, i32_w]
        rfl
      refine pure_ (i := 1) (N := some 28) (v := ?_) (a' := ?_) #[true, true, false, false, false, false, false] rfl rfl (any_of HT_.out (by kernel_rfl)) (fun _ _ _ h => h) (Or.inl ⟨by rfl, ?_⟩) ?_ ?_
      rotate_left
      · intro w'
        go_simp
        with_reducible rfl
      rotate_left
      · simp only [Act.put, List.setIfInBounds_toArray, List.set_cons_zero, List.set_cons_succ, i64_w, i32_w]
        rfl
      refine pure_ (i := 3) (N := some 30) (v := ?_) (a' := ?_) #[true, true, false, true, false, false, false] rfl rfl (any_of HT_.out (by kernel_rfl)) (fun _ _ _ h => h) (Or.inl ⟨by rfl, ?_⟩) ?_ ?_
      rotate_left
      · intro w'
        go_simp
        with_reducible rfl
      rotate_left
      · simp only [Act.put, List.setIfInBounds_toArray, List.set_cons_zero, List.set_cons_succ, i64_w, i32_w]
        rfl
      refine pure_ (i := 4) (N := some 31) (v := ?_) (a' := ?_) #[true, true, false, true, true, false, false] rfl rfl (any_of HT_.out (by kernel_rfl)) (fun _ _ _ h => h) (Or.inl ⟨by rfl, ?_⟩) ?_ ?_
      rotate_left
      · intro w'
        go_simp
        with_reducible rfl
      rotate_left
      · simp only [Act.put, List.setIfInBounds_toArray, List.set_cons_zero, List.set_cons_succ, i64_w, i32_w]
        rfl
      refine pure_ (i := 2) (N := some 29) (v := ?_) (a' := ?_) #[true, true, true, true, true, false, false] rfl rfl (any_of HT_.out (by kernel_rfl)) (fun _ _ _ h => h) (Or.inl ⟨by rfl, ?_⟩) ?_ ?_
      rotate_left
      · intro w'
        go_simp
        with_reducible rfl
      rotate_left
      · simp only [Act.put, List.setIfInBounds_toArray, List.set_cons_zero, List.set_cons_succ, i64_w, i32_w]
        rfl
      refine pure_ (i := 5) (N := some 32) (v := ?_) (a' := ?_) #[true, true, true, true, true, true, false] rfl rfl (any_of HT_.out (by kernel_rfl)) (fun _ _ _ h => h) (Or.inl ⟨by rfl, ?_⟩) ?_ ?_
      rotate_left
      · intro w'
        go_simp
        with_reducible rfl
      rotate_left
      · simp only [Act.put, List.setIfInBounds_toArray, List.set_cons_zero, List.set_cons_succ, i64_w, i32_w]
        rfl
      refine pure_ (i := 6) (N := some 33) (v := ?_) (a' := ?_) #[true, true, true, true, true, true, true] rfl rfl (any_of HT_.out (by kernel_rfl)) (fun _ _ _ h => h) (Or.inl ⟨by rfl, ?_⟩) ?_ ?_
      rotate_left
      · intro w'
        go_simp
        with_reducible rfl
      rotate_left
      · simp only [Act.put, List.setIfInBounds_toArray, List.set_cons_zero, List.set_cons_succ, i64_w, i32_w]
        rfl
      refine done_ (done_of HT_.out (by kernel_rfl)) ?_
      have HYY := Lib.hid hy
      clear hy
      have hb : ((((⟨#[32, 9]⟩ : ByteArray)[1]'(by decide)).toNat : Int) != (((⟨#[x, y]⟩ : ByteArray)[1]'(by show 1 < 2; decide)).toNat : Int)) = true := by
        show ((9 : Int) != (y.toNat : Int)) = true
        exact bne_iff_ne.2 HYY.out
      simp only [hb]
      clear hb HT_ HW_
      go_wp2
      have hw2 : wrap64 2 = 2 := by unfold wrap64; omega
      refine start_ (n := 9) (S := fun _ => True) (ds := []) #[false, false, false, false, false, false, false, false, false] (by kernel_rfl) rfl rfl trivial (fun hHeld => ?_); refine with_tabW request_Read.tabr7 request_Read.bitsr7 (fun HT_ HW_ => ?_)
      refine pure_ (i := 0) (N := some 34) (v := ?_) (a' := ?_) #[true, false, false, false, false, false, false, false, false] rfl rfl (any_of HT_.out (by kernel_rfl)) (fun _ _ _ h => h) (Or.inl ⟨by rfl, ?_⟩) ?_ ?_
      rotate_left
      · intro w'
        go_simp
        with_reducible rfl
      rotate_left
      · simp only [Act.put, List.setIfInBounds_toArray, List.set_cons_zero, List.set_cons_succ, i64_w, i32_w]
        rfl
      refine pure_ (i := 1) (N := some 35) (v := ?_) (a' := ?_) #[true, true, false, false, false, false, false, false, false] rfl rfl (any_of HT_.out (by kernel_rfl)) (fun _ _ _ h => h) (Or.inl ⟨by rfl, ?_⟩) ?_ ?_
      rotate_left
      · intro w'
        go_simp
        with_reducible rfl
      rotate_left
      · simp only [Act.put, List.setIfInBounds_toArray, List.set_cons_zero, List.set_cons_succ, i64_w, i32_w]
        rfl
      refine pure_ (i := 4) (N := some 38) (v := ?_) (a' := ?_) #[true, true, false, false, true, false, false, false, false] rfl rfl (any_of HT_.out (by kernel_rfl)) (fun _ _ _ h => h) (Or.inl ⟨by rfl, ?_⟩) ?_ ?_
      rotate_left
      · intro w'
        go_simp
        with_reducible rfl
      rotate_left
      · simp only [Act.put, List.setIfInBounds_toArray, List.set_cons_zero, List.set_cons_succ, i64_w, i32_w]
        rfl
      refine pure_ (i := 5) (N := some 39) (v := ?_) (a' := ?_) #[true, true, false, false, true, true, false, false, false] rfl rfl (any_of HT_.out (by kernel_rfl)) (fun _ _ _ h => h) (Or.inl ⟨by rfl, ?_⟩) ?_ ?_
      rotate_left
      · intro w'
        go_simp
        with_reducible rfl
      rotate_left
      · simp only [Act.put, List.setIfInBounds_toArray, List.set_cons_zero, List.set_cons_succ, i64_w, i32_w]
        rfl
      refine pure_ (i := 2) (N := some 36) (v := ?_) (a' := ?_) #[true, true, true, false, true, true, false, false, false] rfl rfl (any_of HT_.out (by kernel_rfl)) (fun _ _ _ h => h) (Or.inl ⟨by rfl, ?_⟩) ?_ ?_
      rotate_left
      · intro w'
        go_simp
        with_reducible rfl
      rotate_left
      · simp only [Act.put, List.setIfInBounds_toArray, List.set_cons_zero, List.set_cons_succ, i64_w, i32_w]
        rfl
      refine pure_ (i := 3) (N := some 37) (v := ?_) (a' := ?_) #[true, true, true, true, true, true, false, false, false] rfl rfl (any_of HT_.out (by kernel_rfl)) (fun _ _ _ h => h) (Or.inl ⟨by rfl, ?_⟩) ?_ ?_
      rotate_left
      · intro w'
        go_simp
        with_reducible rfl
      rotate_left
      · simp only [Act.put, List.setIfInBounds_toArray, List.set_cons_zero, List.set_cons_succ, i64_w, i32_w]
        rfl
      refine pure_ (i := 6) (N := some 40) (v := ?_) (a' := ?_) #[true, true, true, true, true, true, true, false, false] rfl rfl (any_of HT_.out (by kernel_rfl)) (fun _ _ _ h => h) (Or.inl ⟨by rfl, ?_⟩) ?_ ?_
      rotate_left
      · intro w'
        go_simp
        with_reducible rfl
      rotate_left
      · simp only [Act.put, List.setIfInBounds_toArray, List.set_cons_zero, List.set_cons_succ, i64_w, i32_w]
        rfl
      refine one_ (i := 7) (N := some 41) #[true, true, true, true, true, true, true, true, false] rfl rfl (one_of HT_.out (by kernel_rfl)) (by decide) (fun K hK => ?_)
      refine goes_ Tryd.func103 (by kernel_rfl) rfl #[.string ⟨#[]⟩, .int .u8 (y.toNat : Int)] (by rfl) rfl rfl (by (try simp only [List.map_toArray, List.map_cons, List.map_nil]); first | done | rfl | (simp only [List.length_drop, List.length_take]; rfl) | (simp; done)) ?_
      refine (strings_IndexByte.calls ⟨#[]⟩ (y.toNat : Int) (-1) _ rfl).mono ?_
      rintro e w' ⟨rfl, ⟨nd2, rfl⟩⟩
      refine ⟨_, rfl, ?_⟩
      refine hK.out _ _ trivial (fun hHeld => ?_)
      clear hK K
      refine norm_ (a' := ?_) ?_ ?_
      rotate_left
      · show Act.put _ (some 41) _ = _
        simp only [Act.put, List.setIfInBounds_toArray, List.set_cons_zero, List.set_cons_succ, i64_w, i32_w]
        rfl
      refine pure_ (i := 8) (N := some 11) (v := ?_) (a' := ?_) #[true, true, true, true, true, true, true, true, true] rfl rfl (any_of HT_.out (by kernel_rfl)) (fun _ _ _ h => h) (Or.inl ⟨by rfl, ?_⟩) ?_ ?_
      rotate_left
      · intro w'
        go_simp
        with_reducible rfl
      rotate_left
      · simp only [Act.put, List.setIfInBounds_toArray, List.set_cons_zero, List.set_cons_succ, i64_w, i32_w]
        rfl
      refine done_ (done_of HT_.out (by kernel_rfl)) ?_
      clear HT_ HW_
      go_wp2
      rw [Exit.noGoto_ret]
      go_wp2
      rw [Exit.noGoto_ret]
      go_ret
      exact ⟨rfl, pw_below_drewN (Below.refl _ _) _⟩
  · by_cases k2 : c < 65536
    · obtain ⟨x, y, z, hrs⟩ : ∃ x y z : UInt8, Utf8.encode (c : Int) = ⟨#[x, y, z]⟩ := by
        refine ⟨UInt8.ofNat (0xE0 + c / 4096), UInt8.ofNat (0x80 + c / 64 % 64), UInt8.ofNat (0x80 + c % 64), ?_⟩
        unfold Utf8.encode
        simp only [hvd, if_true, Int.toNat_natCast]
        rw [if_neg (by omega), if_neg (by omega), if_pos (by omega)]
      apply wp_scope_straight
      go_wp2
      go_loopg [9, 10] 0 (fun gg s9 s10 wr => s9 = .int .i64 2 ∧ s10 = .int .i64 0 ∧ Hid (wr = w.drewN nd))
      case atStart => exact ⟨rfl, rfl, rfl⟩
      case round =>
        obtain ⟨rfl, rfl, hw⟩ := hrel
        obtain rfl := hw.out
        clear hw
        go_wp2
        (try rw [Exit.noGoto_ret])
        go_ret
        exact ⟨rfl, pw_below_drewN (Below.refl _ _) _⟩
    · obtain ⟨x, y, z, u, hrs⟩ : ∃ x y z u : UInt8, Utf8.encode (c : Int) = ⟨#[x, y, z, u]⟩ := by
        refine ⟨UInt8.ofNat (0xF0 + c / 262144), UInt8.ofNat (0x80 + c / 4096 % 64), UInt8.ofNat (0x80 + c / 64 % 64), UInt8.ofNat (0x80 + c % 64), ?_⟩
        unfold Utf8.encode
        simp only [hvd, if_true, Int.toNat_natCast]
        rw [if_neg (by omega), if_neg (by omega), if_neg (by omega)]
      apply wp_scope_straight
      go_wp2
      go_loopg [9, 10] 0 (fun gg s9 s10 wr => s9 = .int .i64 3 ∧ s10 = .int .i64 0 ∧ Hid (wr = w.drewN nd))
      case atStart => exact ⟨rfl, rfl, rfl⟩
      case round =>
        obtain ⟨rfl, rfl, hw⟩ := hrel
        obtain rfl := hw.out
        clear hw
        go_wp2
        (try rw [Exit.noGoto_ret])
        go_ret
        exact ⟨rfl, pw_below_drewN (Below.refl _ _) _⟩
theorem request_Read.ascii_rune : ∀ n : Fin 128, decide (Lib.indexByte [32, 9] ((n.val : Int).toNat.toUInt8) ≥ 0) = blankP n.val := by decide
theorem request_Read.index_rune (c : Nat) (hc : c < 128 ∨ c = 65533 ∨ (128 ≤ c ∧ c ≤ 1114111 ∧ (c < 55296 ∨ 57344 ≤ c))) (w : World) :
    Calls Tryd.prog 86 #[.string ⟨#[32, 9]⟩, .int .i32 (c : Int)] w fun e w' => ∃ q : Int, e = .returned (.int .i64 q) ∧ decide (q ≥ 0) = blankP c ∧ Below w.heap.size w w' := by
  by_cases h0 : c < 128
  · refine (Tryd.strings_IndexRune_ascii ⟨#[32, 9]⟩ (c : Int) w (by omega) (by omega)).mono ?_
    rintro e w' ⟨rfl, rfl⟩
    exact ⟨_, rfl, request_Read.ascii_rune ⟨c, h0⟩, Below.refl _ _⟩
  · have hb : decide ((-1 : Int) ≥ 0) = blankP c := by
      have : blankP c = false := by unfold blankP; simp; omega
      rw [this]
      decide
    by_cases h1 : c = 65533
    · subst h1
      refine (request_Read.index_rune_error w).mono ?_
      rintro e w' ⟨rfl, hw⟩
      exact ⟨_, rfl, hb, hw⟩
    · have h2 : 128 ≤ c ∧ c ≤ 1114111 ∧ (c < 55296 ∨ 57344 ≤ c) := by omega
      refine (request_Read.index_rune_high c h2.1 h2.2.1 h2.2.2 h1 w).mono ?_
      rintro e w' ⟨rfl, hw⟩
      exact ⟨_, rfl, hb, hw⟩
set_option maxHeartbeats 2000000 in
set_option maxRecDepth 100000 in
theorem request_Read.index_any_short (a0 : ByteArray) (h8 : a0.size ≤ 8) (w : World) :
    Calls Tryd.prog 66 #[.string a0, .string ⟨#[32, 9]⟩] w fun e w' => e = .returned (.int .i64 (runesIdx blankP a0 a0.size 0)) ∧ Below w.heap.size w w' := by
  have hs8 : strings_shouldUseASCIISet.f (a0.size : Int) = some false := by
    unfold strings_shouldUseASCIISet.f
    simp
    omega
  go_enter Tryd.func66, Tryd.ntmps66
  go_wp2_with (go_at_call 87; refine (strings_shouldUseASCIISet.calls _ _ _ hs8).mono ?_; rintro e w' ⟨rfl, ⟨nd, rfl⟩⟩)
  go_loopw [] (fun wr => ∃ pos fuel : Nat, Hid (wr.heap[w.heap.size]? = some (.stringIter a0 pos)) ∧ Hid (Below w.heap.size w wr) ∧ a0.size ≤ pos + fuel ∧ Hid (runesIdx blankP a0 a0.size 0 = runesIdx blankP a0 fuel pos)) (fun wr => a0.size - wr.iterPos w.heap.size)
  case atStart => exact ⟨0, a0.size, World.iter_heap (w.drewN nd) a0 0, (pw_below_drewN (Below.refl _ w) nd).alloc (Nat.le_refl _) _, by omega, rfl⟩
  case round =>
    obtain ⟨pos, fuel, hit, hb, hf, hr⟩ := hrel
    have hsz : w.heap.size < wr.heap.size := (Array.getElem?_eq_some_iff.1 hit.out).1
    by_cases hp : pos < a0.size
    · have hnx : ∀ ty, (Instr.next (.pointer (some ⟨w.heap.size, 0, none⟩)) true ty).run Tryd.prog wr = _ := fun ty => Lib.run_next_any_at wr w.heap.size a0 pos ty hit.out hp
      obtain ⟨f, rfl⟩ : ∃ f, fuel = f + 1 := ⟨fuel - 1, by omega⟩
      have hwd := width_pos a0 pos hp
      have Hit2 := Lib.hid (Lib.iterAt_heap wr w.heap.size a0 pos (pos + (Utf8.decode a0 pos).2) hit.out)
      have Hb2 := Lib.hid (Lib.below_iterAt hb.out (k := w.heap.size) (Nat.le_refl _) a0 (pos + (Utf8.decode a0 pos).2))
      have Hit0 := Lib.hid hit.out
      have HRR := Lib.hid hr.out
      have Hp := Lib.hid hp
      have HD := Lib.hid (dec_cases a0 pos)
      clear hit hb hr hp
      cases hd : blankP (Utf8.decode a0 pos).1 with
      | true =>
        have HE := Lib.hid (HRR.out.trans (runesIdx_hit _ a0 f pos Hp.out hd))
        have HDD := Lib.hid hd
        clear hd
        go_wp2_with (go_at_call 86; refine (request_Read.index_rune (Utf8.decode a0 pos).1 HD.out _).mono ?_; rintro e w' ⟨q, rfl, hq, hb⟩; rw [HDD.out] at hq; have Hb3 := Lib.hid hb; clear hb)
        go_ret
        refine ⟨by rw [HE.out]; rfl, ?_⟩
        exact below_then Hb2.out Hb2.out.size Hb3.out
      | false =>
        have HE := Lib.hid (HRR.out.trans (runesIdx_miss _ a0 f pos Hp.out hd))
        have HDD := Lib.hid hd
        clear hd
        go_wp2_with (go_at_call 86; refine (request_Read.index_rune (Utf8.decode a0 pos).1 HD.out _).mono ?_; rintro e w' ⟨q, rfl, hq, hb⟩; rw [HDD.out] at hq; have Hb3 := Lib.hid hb; clear hb)
        have Hit3 := Lib.hid (blk_below Hit2.out Hb3.out)
        go_roundw
        case rel => exact ⟨pos + (Utf8.decode a0 pos).2, f, Hit3.out, below_then Hb2.out Hb2.out.size Hb3.out, by omega, HE.out⟩
        case measure =>
          rw [iterPos_of Hit0.out]
          refine Nat.lt_of_le_of_lt (Nat.le_of_eq (congrArg (a0.size - ·) (iterPos_of Hit3.out))) ?_
          have := Hp.out
          omega
    · have hnx : ∀ ty, (Instr.next (.pointer (some ⟨w.heap.size, 0, none⟩)) true ty).run Tryd.prog wr = _ := fun ty => Lib.run_next_end_at wr w.heap.size a0 pos ty hit.out hp
      have Hend := Lib.hid (hr.out.trans (runesIdx_end _ a0 fuel pos hp))
      clear hr
      go_wp2
      go_ret
      exact ⟨by rw [Hend.out]; rfl, hb.out⟩
theorem request_Read.ne_list (t : ByteArray) (l : List UInt8) (h : t ≠ ⟨⟨l⟩⟩) : (t.toList == l) = false := beq_eq_false_iff_ne.2 (fun e => h (by rw [Lib.toList_data] at e; obtain ⟨⟨x⟩⟩ := t; exact congrArg (fun l => (⟨⟨l⟩⟩ : ByteArray)) e))
theorem request_Read.indexAny_le (cs : List UInt8) : ∀ l : List UInt8, Lib.indexAny l cs ≤ (l.length : Int)
  | [] => by show (-1 : Int) ≤ 0; decide
  | b :: l => by
    have ih := request_Read.indexAny_le cs l
    rw [Lib.indexAny, List.length_cons]
    split
    · omega
    · split <;> omega
theorem request_Read.index_any (a0 : ByteArray) (hs : a0.size < 4294967281) (w : World) :
    Calls Tryd.prog 66 #[.string a0, .string ⟨#[32, 9]⟩] w fun e w' => e = .returned (.int .i64 (Lib.indexAny a0.data.toList [32, 9])) ∧ Below w.heap.size w w' := by
  by_cases h8 : a0.size ≤ 8
  · rw [← runesIdx_all]
    exact request_Read.index_any_short a0 h8 w
  · have hz : (Tryd.prog.info? (Tryd.lays153_ren.t 116)).map (fun i => (i.zero, i.size)) = some (some (.agg (Array.replicate 256 (.bool false))), 256) := by kernel_rfl
    refine (Any.strings_IndexAny_long Tryd.lays153 (zero_of_info hz).1 (zero_of_info hz).2 a0 ⟨#[32, 9]⟩ w (by decide) (by omega) hs (by decide) (by intro j b hb; match j, hb with | 0, hb => obtain rfl := Option.some.inj hb; decide | 1, hb => obtain rfl := Option.some.inj hb; decide)).mono ?_
    rintro e w' ⟨rfl, rfl⟩
    exact ⟨rfl, ((Below.refl _ _).alloc (Nat.le_refl _) _).alloc (by rw [World.size_alloc]; omega) _⟩
set_option maxHeartbeats 2000000 in
set_option maxRecDepth 100000 in
theorem request_Read.say_install (k : Nat) (s : ByteArray) (hs : s.size < 4294967281) (i : Nat) (hi : Lib.indexAny s.data.toList [32, 9] = (i : Int)) (hle : i ≤ s.size) (hw : s.extract 0 i = ⟨#[105, 110, 115, 116, 97, 108, 108]⟩) (r1 : List (List S46)) (r2 r3 : Int) (w : World) (hG : GG w) (hr : relation_Read.f k (s.extract i s.size) = some (r1, r2, r3)) :
    Calls Tryd.prog 42 #[.string s] w fun e w' => ∃ v : Value, e = .returned (.tuple #[.iface 65 v, .int .i64 r2]) ∧ Kd.S (Kd.slice 46 k46) 23 w' w.heap.size (fun _ => True) v r1 ∧ Below w.heap.size w w' := by
  have HG := Aside0.mk hG
  have HR := Aside0.mk hr
  have q0 : decide ((i : Int) < 0) = false := decide_eq_false (by omega)
  have q1 : (0 ≤ (i : Int)) = True := eq_true (by omega)
  have q2 : ((i : Int) ≤ (s.size : Int)) = True := eq_true (by omega)
  clear hG hr
  go_enter Tryd.func42, Tryd.ntmps42
  go_wp2_with (first | (go_at_call 66; refine (request_Read.index_any s hs _).mono ?_; rintro e w1 ⟨rfl, hb⟩; rw [hi]; have HB := Aside0.mk hb; clear hb) | (go_at_call 67; refine (relation_Read.calls k (s.extract i s.size) r1 r2 r3 _ (GG.below HG.out HB.out) HR.out).mono ?_; rintro e w2 ⟨v, rfl, ho, hb2⟩; have HO := Aside0.mk ho; have HB2 := Aside0.mk hb2; clear ho hb2))
  go_ret2
  exact ⟨v, rfl, Kd.S_lower HO.out HB.out.size, below_then HB.out HB.out.size HB2.out⟩
set_option maxHeartbeats 2000000 in
set_option maxRecDepth 100000 in
theorem request_Read.say_forbid (k : Nat) (s : ByteArray) (hs : s.size < 4294967281) (i : Nat) (hi : Lib.indexAny s.data.toList [32, 9] = (i : Int)) (hle : i ≤ s.size) (hw : s.extract 0 i = ⟨#[102, 111, 114, 98, 105, 100]⟩) (r1 : List S46) (r2 r3 : Int) (w : World) (hG : GG w) (hr : relation_ReadList.f k (s.extract i s.size) = some (r1, r2, r3)) :
    Calls Tryd.prog 42 #[.string s] w fun e w' => ∃ v : Value, e = .returned (.tuple #[.iface 66 v, .int .i64 r2]) ∧ Kd.R k46 46 w' w.heap.size (fun _ => True) v r1 ∧ Below w.heap.size w w' := by
  have HG := Aside0.mk hG
  have HR := Aside0.mk hr
  have q0 : decide ((i : Int) < 0) = false := decide_eq_false (by omega)
  have q1 : (0 ≤ (i : Int)) = True := eq_true (by omega)
  have q2 : ((i : Int) ≤ (s.size : Int)) = True := eq_true (by omega)
  clear hG hr
  go_enter Tryd.func42, Tryd.ntmps42
  go_wp2_with (first | (go_at_call 66; refine (request_Read.index_any s hs _).mono ?_; rintro e w1 ⟨rfl, hb⟩; rw [hi]; have HB := Aside0.mk hb; clear hb) | (go_at_call 68; refine (relation_ReadList.calls k (s.extract i s.size) r1 r2 r3 _ (GG.below HG.out HB.out) HR.out).mono ?_; rintro e w2 ⟨v, rfl, ho, hb2⟩; have HO := Aside0.mk ho; have HB2 := Aside0.mk hb2; clear ho hb2))
  go_ret2
  exact ⟨v, rfl, Kd.R_lower HO.out HB.out.size, below_then HB.out HB.out.size HB2.out⟩
set_option maxHeartbeats 2000000 in
set_option maxRecDepth 100000 in
theorem request_Read.say_prefer (k : Nat) (s : ByteArray) (hs : s.size < 4294967281) (i : Nat) (hi : Lib.indexAny s.data.toList [32, 9] = (i : Int)) (hle : i ≤ s.size) (hw : s.extract 0 i = ⟨#[112, 114, 101, 102, 101, 114]⟩) (r1 : List S46) (r2 r3 : Int) (w : World) (hG : GG w) (hr : relation_ReadList.f k (s.extract i s.size) = some (r1, r2, r3)) :
    Calls Tryd.prog 42 #[.string s] w fun e w' => ∃ v : Value, e = .returned (.tuple #[.iface 68 (.agg #[.bool false, v]), .int .i64 r2]) ∧ Kd.R k46 46 w' w.heap.size (fun _ => True) v r1 ∧ Below w.heap.size w w' := by
  have HG := Aside0.mk hG
  have HR := Aside0.mk hr
  have q0 : decide ((i : Int) < 0) = false := decide_eq_false (by omega)
  have q1 : (0 ≤ (i : Int)) = True := eq_true (by omega)
  have q2 : ((i : Int) ≤ (s.size : Int)) = True := eq_true (by omega)
  clear hG hr
  go_enter Tryd.func42, Tryd.ntmps42
  go_wp2_with (first | (go_at_call 66; refine (request_Read.index_any s hs _).mono ?_; rintro e w1 ⟨rfl, hb⟩; rw [hi]; have HB := Aside0.mk hb; clear hb) | (go_at_call 68; refine (relation_ReadList.calls k (s.extract i s.size) r1 r2 r3 _ (GG.below HG.out HB.out) HR.out).mono ?_; rintro e w2 ⟨v, rfl, ho, hb2⟩; obtain ⟨Av, cv, ev⟩ := Kd.R_slice ho; subst ev; have HO := Aside0.mk ho; have HB2 := Aside0.mk hb2; clear ho hb2))
  go_ret2
  exact ⟨_, rfl, Kd.R_lower HO.out HB.out.size, below_then HB.out HB.out.size HB2.out⟩
set_option maxHeartbeats 2000000 in
set_option maxRecDepth 100000 in
theorem request_Read.say_avoid (k : Nat) (s : ByteArray) (hs : s.size < 4294967281) (i : Nat) (hi : Lib.indexAny s.data.toList [32, 9] = (i : Int)) (hle : i ≤ s.size) (hw : s.extract 0 i = ⟨#[97, 118, 111, 105, 100]⟩) (r1 : List S46) (r2 r3 : Int) (w : World) (hG : GG w) (hr : relation_ReadList.f k (s.extract i s.size) = some (r1, r2, r3)) :
    Calls Tryd.prog 42 #[.string s] w fun e w' => ∃ v : Value, e = .returned (.tuple #[.iface 68 (.agg #[.bool true, v]), .int .i64 r2]) ∧ Kd.R k46 46 w' w.heap.size (fun _ => True) v r1 ∧ Below w.heap.size w w' := by
  have HG := Aside0.mk hG
  have HR := Aside0.mk hr
  have q0 : decide ((i : Int) < 0) = false := decide_eq_false (by omega)
  have q1 : (0 ≤ (i : Int)) = True := eq_true (by omega)
  have q2 : ((i : Int) ≤ (s.size : Int)) = True := eq_true (by omega)
  clear hG hr
  go_enter Tryd.func42, Tryd.ntmps42
  go_wp2_with (first | (go_at_call 66; refine (request_Read.index_any s hs _).mono ?_; rintro e w1 ⟨rfl, hb⟩; rw [hi]; have HB := Aside0.mk hb; clear hb) | (go_at_call 68; refine (relation_ReadList.calls k (s.extract i s.size) r1 r2 r3 _ (GG.below HG.out HB.out) HR.out).mono ?_; rintro e w2 ⟨v, rfl, ho, hb2⟩; obtain ⟨Av, cv, ev⟩ := Kd.R_slice ho; subst ev; have HO := Aside0.mk ho; have HB2 := Aside0.mk hb2; clear ho hb2))
  go_ret2
  exact ⟨_, rfl, Kd.R_lower HO.out HB.out.size, below_then HB.out HB.out.size HB2.out⟩
set_option maxHeartbeats 2000000 in
set_option maxRecDepth 100000 in
theorem request_Read.say_none (s : ByteArray) (hs : s.size < 4294967281) (hi : Lib.indexAny s.data.toList [32, 9] = -1) (w : World) :
    Calls Tryd.prog 42 #[.string s] w fun e w' => e = .returned (.tuple #[.nilIface, .int .i64 240]) ∧ Below w.heap.size w w' := by
  go_enter Tryd.func42, Tryd.ntmps42
  go_wp2_with (go_at_call 66; refine (request_Read.index_any s hs _).mono ?_; rintro e w1 ⟨rfl, hb⟩; rw [hi]; have HB := Aside0.mk hb; clear hb)
  go_ret2
  exact ⟨rfl, HB.out⟩
set_option maxHeartbeats 2000000 in
set_option maxRecDepth 100000 in
theorem request_Read.say_other (s : ByteArray) (hs : s.size < 4294967281) (i : Nat) (hi : Lib.indexAny s.data.toList [32, 9] = (i : Int)) (hle : i ≤ s.size) (t : ByteArray) (hw : s.extract 0 i = t) (h1 : t ≠ ⟨#[105, 110, 115, 116, 97, 108, 108]⟩) (h2 : t ≠ ⟨#[102, 111, 114, 98, 105, 100]⟩) (h3 : t ≠ ⟨#[112, 114, 101, 102, 101, 114]⟩) (h4 : t ≠ ⟨#[97, 118, 111, 105, 100]⟩) (w : World) :
    Calls Tryd.prog 42 #[.string s] w fun e w' => e = .returned (.tuple #[.nilIface, .int .i64 240]) ∧ Below w.heap.size w w' := by
  have q0 : decide ((i : Int) < 0) = false := decide_eq_false (by omega)
  have q1 : (0 ≤ (i : Int)) = True := eq_true (by omega)
  have q2 : ((i : Int) ≤ (s.size : Int)) = True := eq_true (by omega)
  have e1 : (t.toList == [105, 110, 115, 116, 97, 108, 108]) = false := request_Read.ne_list t _ h1
  have e2 : (t.toList == [102, 111, 114, 98, 105, 100]) = false := request_Read.ne_list t _ h2
  have e3 : (t.toList == [112, 114, 101, 102, 101, 114]) = false := request_Read.ne_list t _ h3
  have e4 : (t.toList == [97, 118, 111, 105, 100]) = false := request_Read.ne_list t _ h4
  clear h1 h2 h3 h4
  go_enter Tryd.func42, Tryd.ntmps42
  go_wp2_with (go_at_call 66; refine (request_Read.index_any s hs _).mono ?_; rintro e w1 ⟨rfl, hb⟩; rw [hi]; have HB := Aside0.mk hb; clear hb)
  go_ret2
  exact ⟨rfl, HB.out⟩
abbrev request_Read.Q := List (List S46) × List S46 × List S48
def request_Read.step (k : Nat) (t : ByteArray) (q : request_Read.Q) : Option (request_Read.Q × Int) :=
  if Lib.indexAny t.data.toList [32, 9] < 0 then some (q, 240) else
  if t.extract 0 (Lib.indexAny t.data.toList [32, 9]).toNat = ⟨#[105, 110, 115, 116, 97, 108, 108]⟩ then (relation_Read.f k (t.extract (Lib.indexAny t.data.toList [32, 9]).toNat t.size)).bind fun r => if r.2.1 = 0 then (if (q.1.length + r.1.length) * 24 ≤ 140737488355328 then some ((q.1 ++ r.1, q.2.1, q.2.2), 0) else none) else some (q, r.2.1)
  else if t.extract 0 (Lib.indexAny t.data.toList [32, 9]).toNat = ⟨#[102, 111, 114, 98, 105, 100]⟩ then (relation_ReadList.f k (t.extract (Lib.indexAny t.data.toList [32, 9]).toNat t.size)).bind fun r => if r.2.1 = 0 then (if (q.2.1.length + r.1.length) * 40 ≤ 140737488355328 then some ((q.1, q.2.1 ++ r.1, q.2.2), 0) else none) else some (q, r.2.1)
  else if t.extract 0 (Lib.indexAny t.data.toList [32, 9]).toNat = ⟨#[112, 114, 101, 102, 101, 114]⟩ then (relation_ReadList.f k (t.extract (Lib.indexAny t.data.toList [32, 9]).toNat t.size)).bind fun r => if r.2.1 = 0 then (if (q.2.2.length + r.1.length) * 48 ≤ 140737488355328 then some ((q.1, q.2.1, q.2.2 ++ request_Read.wishes false r.1), 0) else none) else some (q, r.2.1)
  else if t.extract 0 (Lib.indexAny t.data.toList [32, 9]).toNat = ⟨#[97, 118, 111, 105, 100]⟩ then (relation_ReadList.f k (t.extract (Lib.indexAny t.data.toList [32, 9]).toNat t.size)).bind fun r => if r.2.1 = 0 then (if (q.2.2.length + r.1.length) * 48 ≤ 140737488355328 then some ((q.1, q.2.1, q.2.2 ++ request_Read.wishes true r.1), 0) else none) else some (q, r.2.1)
  else some (q, 240)
def request_Read.trim (l : ByteArray) : ByteArray := ⟨(Lib.trimS l.data.toList [32, 9]).toArray⟩
def request_Read.idle (t : ByteArray) : Bool := match t.data.toList with | [] => true | c :: _ => c == 35
def request_Read.lines (k : Nat) : List ByteArray → Nat → request_Read.Q → Option (List (List S46) × List S46 × List S48 × Int × Int)
  | [], _, q => some (q.1, q.2.1, q.2.2, 0, 0)
  | l :: ls, i, q => if l.size < 4294967281 ∧ (request_Read.trim l).size < 4294967281 then (if request_Read.idle (request_Read.trim l) = true then request_Read.lines k ls (i + 1) q else (request_Read.step k (request_Read.trim l) q).bind fun r => if r.2 = 0 then request_Read.lines k ls (i + 1) r.1 else some ([], [], [], r.2, ((i + 1 : Nat) : Int))) else none
def request_Read.f (k : Nat) (a0 : ByteArray) : Option (List (List S46) × List S46 × List S48 × Int × Int) :=
  if a0.size < 4294967281 then request_Read.lines k (Lib.splitB ⟨#[10]⟩ 0 (Lib.countB a0 ⟨#[10]⟩) a0) 0 ([], [], []) else none
theorem request_Read.step_mono (k : Nat) (t : ByteArray) (q : request_Read.Q) : LeO (request_Read.step k t q) (request_Read.step (k + 1) t q) := by
  unfold request_Read.step
  refine LeO.ite (LeO.refl _) ?_
  refine LeO.ite (LeO.bind (relation_Read.mono _ _) (fun _ => LeO.refl _)) ?_
  refine LeO.ite (LeO.bind (relation_ReadList.mono _ _) (fun _ => LeO.refl _)) ?_
  refine LeO.ite (LeO.bind (relation_ReadList.mono _ _) (fun _ => LeO.refl _)) ?_
  exact LeO.ite (LeO.bind (relation_ReadList.mono _ _) (fun _ => LeO.refl _)) (LeO.refl _)
theorem request_Read.lines_mono (k : Nat) : ∀ ls i q, LeO (request_Read.lines k ls i q) (request_Read.lines (k + 1) ls i q)
  | [], _, _ => LeO.refl _
  | l :: ls, i, q => LeO.ite (LeO.ite (request_Read.lines_mono k ls _ _) (LeO.bind (request_Read.step_mono k _ _) (fun _ => LeO.ite (request_Read.lines_mono k ls _ _) (LeO.refl _)))) (LeO.none _)
theorem request_Read.mono : ∀ a0 k, LeO (request_Read.f k a0) (request_Read.f (k + 1) a0) := fun a0 k => LeO.ite (request_Read.lines_mono k _ _ _) (LeO.refl _)
set_option maxHeartbeats 2000000 in
set_option maxRecDepth 100000 in
theorem request_Read.calls (k : Nat) (a0 : ByteArray) (r1 : List (List S46)) (r2 : List S46) (r3 : List S48) (r4 r5 : Int) (w : World) (hG : GG w) (h : request_Read.f k a0 = some (r1, r2, r3, r4, r5)) :
    Calls Tryd.prog 19 #[.string a0] w fun e w' => ∃ v0_ v1_ v2_ : Value, e = .returned (.tuple #[.agg #[v0_, v1_, v2_], .int .i64 r4, .int .i64 r5]) ∧ Kd.N (Kd.slice 46 k46) 23 w' w.heap.size (fun k_ => (w.heap.size ≤ k_) ∧ some k_ ≠ (v1_ : Value).ownBlock ∧ some k_ ≠ (v2_ : Value).ownBlock) v0_ r1 ∧ Kd.R k46 46 w' w.heap.size (fun k_ => (w.heap.size ≤ k_)) v1_ r2 ∧ Kd.R k48 48 w' w.heap.size (fun k_ => (w.heap.size ≤ k_)) v2_ r3 ∧ Below w.heap.size w w' := by
  have hu26 := Tryd.underlying26
  have HG := Aside0.mk hG
  clear hG
  unfold request_Read.f at h
  split at h
  case isFalse => cases h
  case isTrue hs =>
  have HH := Aside0.mk h
  clear h
  have hi9 : (Tryd.prog.info? (Tryd.lays146_ren.t 9)).map (fun i => (i.zero, i.size, i.bytes)) = some (some (.string ByteArray.empty), 1, 16) := by kernel_rfl
  go_enter Tryd.func19, Tryd.ntmps19
  go_upto_region 3 with (first | ((with_reducible refine gate_dst (N := 2) rfl ?_); refine box_event ?hg (N := 2) ?hd (cs := #[.slice none 0 0, .slice none 0 0, .slice none 0 0]) (t := 26) ?hr ?_; (case hd => rfl); (case hg => rfl); (case hr => first | (go_simp; done) | (go_simp; rfl)); intro gr hgr w4 hbox hb; have BR4 := Aside0.mk hbox; have HB4 := Aside0.mk hb; have GR := Aside0.mk hgr; clear hbox hb hgr) | ((with_reducible refine gate_dst (N := 5) rfl ?_); refine box_event ?hg (N := 5) ?hd (cs := #[.slice none 0 0, .slice none 0 0, .slice none 0 0]) (t := 26) ?hr ?_; (case hd => rfl); (case hg => rfl); (case hr => first | (go_simp; done) | (go_simp; rfl)); intro gO hgo w5 hbox hb; have BR5 := Aside0.mk (blk_below BR4.out hb); have BO5 := Aside0.mk hbox; have HB5 := Aside0.mk (below_step HB4.out hb); have GO := Aside0.mk (show gr < gO by rw [hgo]; exact blk_lt BR4.out); obtain ⟨m, hm⟩ := (GG.below HG.out HB5.out).max; clear hbox hb hgo HB4 BR4) | (go_at_call 40; refine (Any.strings_Split Tryd.lays146 hi9 a0 ⟨#[10]⟩ m w5 hs hm (by decide)).mono ?_; rintro e w7 ⟨rfl, rfl⟩))
  have hlen := Lib.splitB_all ⟨#[10]⟩ (by decide) 0 (Lib.countB a0 ⟨#[10]⟩) a0 rfl
  obtain ⟨LS, hLS⟩ : ∃ LS, Lib.splitB ⟨#[10]⟩ 0 (Lib.countB a0 ⟨#[10]⟩) a0 = LS := ⟨_, rfl⟩
  rw [hLS] at hlen
  have hH := HH.out
  rw [hLS] at hH
  have HH2 := Aside0.mk hH
  rw [hLS]
  obtain ⟨n, hn⟩ : ∃ n, Lib.countB a0 ⟨#[10]⟩ = n := ⟨_, rfl⟩
  rw [hn] at hlen
  rw [hn]
  have HNB := Aside0.mk (show n ≤ a0.size by rw [← hn]; exact Lib.countB_le ⟨#[10]⟩ (by decide) a0.size a0 (Nat.le_refl _))
  clear hH HH hLS hn hm
  have HGG := Aside0.mk (show w.heap.size ≤ gO by have h1 := GR.out; have h2 := GO.out; omega)
  have HNR := Aside0.mk (show gr ≠ gO by have h3 := GO.out; omega)
  have HNS := Aside0.mk (show w5.heap.size ≠ gO by have h3 := blk_lt BO5.out; omega)
  go_loopg [13] LS.length (fun gg s13 wr => ∃ (y : Nat) (v0 v1 v2 : Value) (q : request_Read.Q), s13 = .int .i64 (y : Int) ∧ y ≤ LS.length ∧ LS.length - y ≤ gg ∧ Aside0 (request_Read.St w.heap.size gO v0 v1 v2 q.1 q.2.1 q.2.2 wr) ∧ Aside0 (wr.heap[w5.heap.size]? = some (.cells (LS.map Value.string).toArray 9 (0, 0))) ∧ Aside0 (wr.heap[gr]? = some (.cells #[.slice none 0 0, .slice none 0 0, .slice none 0 0] 26 (0, 0))) ∧ Aside0 (Below w.heap.size w wr) ∧ Aside0 (request_Read.lines k (LS.drop y) y q = some (r1, r2, r3, r4, r5)))
  case atStart => exact ⟨0, .slice none 0 0, .slice none 0 0, .slice none 0 0, ([], [], []), rfl, by omega, by omega, ⟨blk_alloc BO5.out _, Kd.N_nil _ _ _ _ _, Kd.R_nil _ _ _ _ _, Kd.R_nil _ _ _ _ _⟩, ⟨blk_new _ _⟩, ⟨blk_alloc BR5.out _⟩, ⟨below_alloc HB5.out _⟩, HH2⟩
  case round =>
    clear HH2
    obtain ⟨y, v0, v1, v2, q, rfl, hy, hgy, HS, HX, HR, HBl, HN⟩ := hrel
    by_cases hly : y < LS.length
    · obtain ⟨gk2, rfl⟩ : ∃ g, gk = g + 1 := ⟨gk - 1, by omega⟩
      have hnb := HNB.out
      have HY := Aside0.mk (show y + 1 ≤ LS.length ∧ LS.length - (y + 1) ≤ gk2 ∧ LS.length = n + 1 by omega)
      have hdr : LS.drop y = LS[y] :: LS.drop (y + 1) := List.drop_eq_getElem_cons hly
      have H := HN.out
      rw [hdr, request_Read.lines] at H
      split at H
      case isFalse => cases H
      case isTrue hsz =>
      have hcl : wr.cell? ⟨w5.heap.size, y, none⟩ = some (.string LS[y]) := by
        rw [blk_cell HX.out y, List.getElem?_toArray, List.getElem?_map, List.getElem?_eq_getElem hly]
        rfl
      have q0 : decide ((y : Int) < (n : Int) + 1) = true := decide_eq_true (by omega)
      have q1 : (0 ≤ (y : Int)) = True := eq_true (by omega)
      have q2 : ((y : Int) < (n : Int) + 1) = True := eq_true (by omega)
      have HSZ := Aside0.mk hsz
      have H2 := Aside0.mk H
      clear H HN hsz hdr
      have hz : (Tryd.prog.info? (Tryd.lays160_ren.t 116)).map (fun i => (i.zero, i.size)) = some (some (.agg (Array.replicate 256 (.bool false))), 256) := by kernel_rfl
      obtain ⟨tt, htt⟩ : ∃ tt, request_Read.trim LS[y] = tt := ⟨_, rfl⟩
      have H2o := H2.out
      have hs2 := HSZ.out.2
      rw [htt] at H2o hs2
      have HTT := Aside0.mk htt
      have HTS := Aside0.mk hs2
      have HY2 := Aside0.mk (show wrap64 ((y : Int) + 1) = ((y + 1 : Nat) : Int) by unfold wrap64; omega)
      clear htt hs2 H2
      cases hd : tt.data.toList with
      | nil =>
        have e : tt = ⟨#[]⟩ := by obtain ⟨⟨x⟩⟩ := tt; exact congrArg (fun l => (⟨⟨l⟩⟩ : ByteArray)) hd
        have hid : request_Read.idle tt = true := by unfold request_Read.idle; rw [hd]
        rw [if_pos hid] at H2o
        have H3 := Aside0.mk H2o
        clear H2o hid hd
        subst e
        go_wp2_with (go_at_call 41; refine (Any.strings_Trim_laid Tryd.lays160 hz LS[y] ⟨#[32, 9]⟩ wr (by have h1 := HSZ.out.1; omega) (by decide) (by intro j b hb; match j, hb with | 0, hb => obtain rfl := Option.some.inj hb; decide | 1, hb => obtain rfl := Option.some.inj hb; decide)).mono ?_; rintro e w8 ⟨rfl, hb8⟩; rw [show (⟨(Lib.trimS LS[y].data.toList (⟨#[32, 9]⟩ : ByteArray).data.toList).toArray⟩ : ByteArray) = (⟨#[]⟩ : ByteArray) from HTT.out]; have HB8 := Aside0.mk hb8; clear hb8)
        have m0 := Aside0.mk (request_Read.St_below HS.out HB8.out)
        have m1 := Aside0.mk (blk_below HX.out HB8.out)
        have m2 := Aside0.mk (blk_below HR.out HB8.out)
        have m3 := Aside0.mk (below_step HBl.out HB8.out)
        go_roundg gk2
        case measure => exact Nat.lt_succ_self gk2
        case rel => exact ⟨y + 1, v0, v1, v2, q, (by first | exact congrArg (Value.int .i64) HY2.out | rfl), HY.out.1, HY.out.2.1, m0, m1, m2, m3, H3⟩
      | cons c0 rest =>
        have hpos : 0 < tt.size := by
          have h1 : tt.data.toList.length = tt.size := by simp
          rw [hd, List.length_cons] at h1
          omega
        have hc0 : tt[0]'hpos = c0 := by
          have h1 : tt.data.toList[0]? = some c0 := by rw [hd]; rfl
          have h2 : tt.data.toList[0]? = some (tt[0]'hpos) := List.getElem?_eq_getElem (by simpa using hpos)
          exact Option.some.inj (h2.symm.trans h1)
        have z1 : (tt.toList == ([] : List UInt8)) = false := by rw [Lib.toList_data, hd]; rfl
        have z2 : tt.toList.isEmpty = false := by rw [Lib.toList_data, hd]; rfl
        have z3 : ((0 : Int) < (tt.size : Int)) = True := eq_true (by omega)
        cases hc : (c0 == 35) with
        | true =>
          have hid : request_Read.idle tt = true := by unfold request_Read.idle; rw [hd]; exact hc
          rw [if_pos hid] at H2o
          have H3 := Aside0.mk H2o
          have z4 : ((((tt[0]'hpos).toNat : Nat) : Int) == 35) = true := by rw [hc0, beq_iff_eq.1 hc]; rfl
          clear H2o hid hd hc hc0
          go_wp2_with (go_at_call 41; refine (Any.strings_Trim_laid Tryd.lays160 hz LS[y] ⟨#[32, 9]⟩ wr (by have h1 := HSZ.out.1; omega) (by decide) (by intro j b hb; match j, hb with | 0, hb => obtain rfl := Option.some.inj hb; decide | 1, hb => obtain rfl := Option.some.inj hb; decide)).mono ?_; rintro e w8 ⟨rfl, hb8⟩; rw [show (⟨(Lib.trimS LS[y].data.toList (⟨#[32, 9]⟩ : ByteArray).data.toList).toArray⟩ : ByteArray) = tt from HTT.out]; have HB8 := Aside0.mk hb8; clear hb8)
          have m0 := Aside0.mk (request_Read.St_below HS.out HB8.out)
          have m1 := Aside0.mk (blk_below HX.out HB8.out)
          have m2 := Aside0.mk (blk_below HR.out HB8.out)
          have m3 := Aside0.mk (below_step HBl.out HB8.out)
          go_roundg gk2
          case measure => exact Nat.lt_succ_self gk2
          case rel => exact ⟨y + 1, v0, v1, v2, q, (by first | exact congrArg (Value.int .i64) HY2.out | rfl), HY.out.1, HY.out.2.1, m0, m1, m2, m3, H3⟩
        | false =>
          have hid : request_Read.idle tt = false := by unfold request_Read.idle; rw [hd]; exact hc
          rw [if_neg (by rw [hid]; decide)] at H2o
          have z4 : ((((tt[0]'hpos).toNat : Nat) : Int) == 35) = false := by
            rw [hc0]
            refine beq_eq_false_iff_ne.2 (fun e => ?_)
            have h1 : c0 = 35 := UInt8.toNat_inj.1 (by have h2 : (35 : UInt8).toNat = 35 := rfl; omega)
            rw [h1] at hc
            exact absurd hc (by decide)
          have hge := Lib.indexAny_ge [32, 9] tt.data.toList
          clear hid hc hc0
          by_cases hneg : Lib.indexAny tt.data.toList [32, 9] < 0
          · have hidx : Lib.indexAny tt.data.toList [32, 9] = -1 := by omega
            have hst : request_Read.step k tt q = some (q, 240) := by unfold request_Read.step; rw [if_pos hneg]
            rw [hst] at H2o
            simp only [Option.bind_some, show ¬ (240 : Int) = 0 by decide, if_false, Option.some.injEq, Prod.mk.injEq] at H2o
            obtain ⟨rfl, rfl, rfl, rfl, rfl⟩ := H2o
            clear hd hst hneg hge
            have hng := HNR.out
            go_wp2_with (first | (go_at_call 41; refine (Any.strings_Trim_laid Tryd.lays160 hz LS[y] ⟨#[32, 9]⟩ wr (by have h1 := HSZ.out.1; omega) (by decide) (by intro j b hb; match j, hb with | 0, hb => obtain rfl := Option.some.inj hb; decide | 1, hb => obtain rfl := Option.some.inj hb; decide)).mono ?_; rintro e w8 ⟨rfl, hb8⟩; rw [show (⟨(Lib.trimS LS[y].data.toList (⟨#[32, 9]⟩ : ByteArray).data.toList).toArray⟩ : ByteArray) = tt from HTT.out]; have HB8 := Aside0.mk hb8; clear hb8) | (go_at_call 42; refine (request_Read.say_none tt HTS.out hidx _).mono ?_; rintro e w9 ⟨rfl, hb9⟩; have HB9 := Aside0.mk (below_step (below_step HBl.out HB8.out) hb9); have HR9 := Aside0.mk (blk_below (blk_below HR.out HB8.out) hb9); clear hb9; have cr0 : w9.cell? ⟨gr, 0, none⟩ = some (.slice none 0 0) := (blk_cell HR9.out 0).trans rfl; have cr1 : w9.cell? ⟨gr, 1, none⟩ = some (.slice none 0 0) := (blk_cell HR9.out 1).trans rfl; have cr2 : w9.cell? ⟨gr, 2, none⟩ = some (.slice none 0 0) := (blk_cell HR9.out 2).trans rfl; have cz0 := blk_frozen HR9.out 0; have cz1 := blk_frozen HR9.out 1; have cz2 := blk_frozen HR9.out 2))
            have HGE := Aside0.mk (show w.heap.size ≤ gr by have h1 := GR.out; omega)
            refine bodyPost_ret (results_ctt rfl _ _ gr 26 #[.slice none 0 0, .slice none 0 0, .slice none 0 0] (0, 0) _ rfl (request_Read.three HR9.out) Tryd.underlying26 rfl (by kernel_rfl)) rfl ?_
            exact ⟨_, _, _, (by first | rfl | (rw [← HY2.out]; rfl)), Kd.N_nil _ _ _ _ _, Kd.R_nil _ _ _ _ _, Kd.R_nil _ _ _ _ _, below_set (below_set (below_set HB9.out HGE.out) HGE.out) HGE.out⟩
          · obtain ⟨iN, hi⟩ : ∃ iN : Nat, Lib.indexAny tt.data.toList [32, 9] = (iN : Int) := ⟨(Lib.indexAny tt.data.toList [32, 9]).toNat, by omega⟩
            have hle : iN ≤ tt.size := by
              have h1 := request_Read.indexAny_le [32, 9] tt.data.toList
              have h2 : tt.data.toList.length = tt.size := by simp
              omega
            unfold request_Read.step at H2o
            rw [if_neg hneg, hi] at H2o
            simp only [Int.toNat_natCast] at H2o
            clear hneg hge hd
            have hng := HNR.out
            have HGE := Aside0.mk (show w.heap.size ≤ gr by have h1 := GR.out; omega)
            by_cases w1 : tt.extract 0 iN = ⟨#[105, 110, 115, 116, 97, 108, 108]⟩
            · rw [if_pos w1, Option.bind_assoc] at H2o
              obtain ⟨⟨p1, p2, p3⟩, hp, H2o⟩ := Option.bind_eq_some_iff.mp H2o
              simp only at H2o
              by_cases he : p2 = 0
              · subst he
                rw [if_pos rfl] at H2o
                split at H2o
                case isFalse => simp at H2o
                case isTrue hl =>
                simp only [Option.bind_some, if_true] at H2o
                have H3 := Aside0.mk H2o
                have HLL := Aside0.mk hl
                clear H2o hl
                go_wp2_with (first | (go_at_call 41; refine (Any.strings_Trim_laid Tryd.lays160 hz LS[y] ⟨#[32, 9]⟩ wr (by have h1 := HSZ.out.1; omega) (by decide) (by intro j b hb; match j, hb with | 0, hb => obtain rfl := Option.some.inj hb; decide | 1, hb => obtain rfl := Option.some.inj hb; decide)).mono ?_; rintro e w8 ⟨rfl, hb8⟩; rw [show (⟨(Lib.trimS LS[y].data.toList (⟨#[32, 9]⟩ : ByteArray).data.toList).toArray⟩ : ByteArray) = tt from HTT.out]; have HB8 := Aside0.mk hb8; clear hb8) | (go_at_call 42; refine (request_Read.say_install k tt HTS.out iN hi hle w1 p1 0 p3 _ (GG.below HG.out (below_step HBl.out HB8.out)) hp).mono ?_; rintro e w9 ⟨vv, rfl, ho9, hb9⟩; obtain ⟨Av, cv, ev⟩ := Kd.R_slice (Kd.S_R ho9); subst ev; have HO9 := Aside0.mk ho9; have HB9 := Aside0.mk hb9; clear ho9 hb9) | (go_at_call 43; refine (request_Read.put_install w _ gO v0 v1 v2 q.1 q.2.1 q.2.2 p1 Av cv (fun k => (gO < k ∧ some k ≠ v1.ownBlock ∧ some k ≠ v2.ownBlock) ∧ some k ≠ v0.ownBlock) (request_Read.St_below (request_Read.St_below HS.out HB8.out) HB9.out) (below_step (below_step HBl.out HB8.out) HB9.out) HGG.out (Kd.N_F (Kd.N_mono (Kd.S_N (Kd.S_bound HO9.out)) (fun k hk => request_Read.fresh_ok (request_Read.St_below HS.out HB8.out) k hk.2.1))) (fun k hk => hk) HLL.out).mono ?_; rintro e w10 ⟨rfl, u, hS10, hB10, hST⟩; have m0 := Aside0.mk hS10; have m3 := Aside0.mk hB10; have m4 := Aside0.mk hST; clear hS10 hB10 hST))
                have m1 := Aside0.mk (m4.out _ _ _ HNS.out (by decide) (by decide) (by decide) (blk_below (blk_below HX.out HB8.out) HB9.out))
                have m2 := Aside0.mk (m4.out _ _ _ HNR.out (by decide) (by decide) (by decide) (blk_below (blk_below HR.out HB8.out) HB9.out))
                go_roundg gk2
                case measure => exact Nat.lt_succ_self gk2
                case rel => exact ⟨y + 1, u, v1, v2, (q.1 ++ p1, q.2.1, q.2.2), (by first | exact congrArg (Value.int .i64) HY2.out | rfl), HY.out.1, HY.out.2.1, m0, m1, m2, m3, H3⟩
              · rw [if_neg he] at H2o
                simp only [Option.bind_some, he, if_false, Option.some.injEq, Prod.mk.injEq] at H2o
                obtain ⟨rfl, rfl, rfl, rfl, rfl⟩ := H2o
                have z5 : (p2 == 0) = false := beq_eq_false_iff_ne.2 he
                go_wp2_with (first | (go_at_call 41; refine (Any.strings_Trim_laid Tryd.lays160 hz LS[y] ⟨#[32, 9]⟩ wr (by have h1 := HSZ.out.1; omega) (by decide) (by intro j b hb; match j, hb with | 0, hb => obtain rfl := Option.some.inj hb; decide | 1, hb => obtain rfl := Option.some.inj hb; decide)).mono ?_; rintro e w8 ⟨rfl, hb8⟩; rw [show (⟨(Lib.trimS LS[y].data.toList (⟨#[32, 9]⟩ : ByteArray).data.toList).toArray⟩ : ByteArray) = tt from HTT.out]; have HB8 := Aside0.mk hb8; clear hb8) | (go_at_call 42; refine (request_Read.say_install k tt HTS.out iN hi hle w1 p1 p2 p3 _ (GG.below HG.out (below_step HBl.out HB8.out)) hp).mono ?_; rintro e w9 ⟨vv, rfl, ho9, hb9⟩; have HB9 := Aside0.mk (below_step (below_step HBl.out HB8.out) hb9); have HR9 := Aside0.mk (blk_below (blk_below HR.out HB8.out) hb9); clear hb9; have cr0 : w9.cell? ⟨gr, 0, none⟩ = some (.slice none 0 0) := (blk_cell HR9.out 0).trans rfl; have cr1 : w9.cell? ⟨gr, 1, none⟩ = some (.slice none 0 0) := (blk_cell HR9.out 1).trans rfl; have cr2 : w9.cell? ⟨gr, 2, none⟩ = some (.slice none 0 0) := (blk_cell HR9.out 2).trans rfl; have cz0 := blk_frozen HR9.out 0; have cz1 := blk_frozen HR9.out 1; have cz2 := blk_frozen HR9.out 2))
                refine bodyPost_ret (results_ctt rfl _ _ gr 26 #[.slice none 0 0, .slice none 0 0, .slice none 0 0] (0, 0) _ rfl (request_Read.three HR9.out) Tryd.underlying26 rfl (by kernel_rfl)) rfl ?_
                exact ⟨_, _, _, (by first | rfl | (rw [← HY2.out]; rfl)), Kd.N_nil _ _ _ _ _, Kd.R_nil _ _ _ _ _, Kd.R_nil _ _ _ _ _, below_set (below_set (below_set HB9.out HGE.out) HGE.out) HGE.out⟩
            · rw [if_neg w1] at H2o
              by_cases w2_ : tt.extract 0 iN = ⟨#[102, 111, 114, 98, 105, 100]⟩
              · rw [if_pos w2_, Option.bind_assoc] at H2o
                obtain ⟨⟨p1, p2, p3⟩, hp, H2o⟩ := Option.bind_eq_some_iff.mp H2o
                simp only at H2o
                by_cases he : p2 = 0
                · subst he
                  rw [if_pos rfl] at H2o
                  split at H2o
                  case isFalse => simp at H2o
                  case isTrue hl =>
                  simp only [Option.bind_some, if_true] at H2o
                  have H3 := Aside0.mk H2o
                  have HLL := Aside0.mk hl
                  clear H2o hl
                  go_wp2_with (first | (go_at_call 41; refine (Any.strings_Trim_laid Tryd.lays160 hz LS[y] ⟨#[32, 9]⟩ wr (by have h1 := HSZ.out.1; omega) (by decide) (by intro j b hb; match j, hb with | 0, hb => obtain rfl := Option.some.inj hb; decide | 1, hb => obtain rfl := Option.some.inj hb; decide)).mono ?_; rintro e w8 ⟨rfl, hb8⟩; rw [show (⟨(Lib.trimS LS[y].data.toList (⟨#[32, 9]⟩ : ByteArray).data.toList).toArray⟩ : ByteArray) = tt from HTT.out]; have HB8 := Aside0.mk hb8; clear hb8) | (go_at_call 42; refine (request_Read.say_forbid k tt HTS.out iN hi hle w2_ p1 0 p3 _ (GG.below HG.out (below_step HBl.out HB8.out)) hp).mono ?_; rintro e w9 ⟨vv, rfl, ho9, hb9⟩; obtain ⟨Av, cv, ev⟩ := Kd.R_slice ho9; subst ev; have HO9 := Aside0.mk ho9; have HB9 := Aside0.mk hb9; clear ho9 hb9) | (go_at_call 43; refine (request_Read.put_forbid w _ gO v0 v1 v2 q.1 q.2.1 q.2.2 p1 Av cv (request_Read.St_below (request_Read.St_below HS.out HB8.out) HB9.out) (below_step (below_step HBl.out HB8.out) HB9.out) HGG.out (Kd.R_reads' HO9.out).2.2 HLL.out).mono ?_; rintro e w2_0 ⟨rfl, u, hS10, hB10, hST⟩; have m0 := Aside0.mk hS10; have m3 := Aside0.mk hB10; have m4 := Aside0.mk hST; clear hS10 hB10 hST))
                  have m1 := Aside0.mk (m4.out _ _ _ HNS.out (by decide) (by decide) (by decide) (blk_below (blk_below HX.out HB8.out) HB9.out))
                  have m2 := Aside0.mk (m4.out _ _ _ HNR.out (by decide) (by decide) (by decide) (blk_below (blk_below HR.out HB8.out) HB9.out))
                  go_roundg gk2
                  case measure => exact Nat.lt_succ_self gk2
                  case rel => exact ⟨y + 1, v0, u, v2, (q.1, q.2.1 ++ p1, q.2.2), (by first | exact congrArg (Value.int .i64) HY2.out | rfl), HY.out.1, HY.out.2.1, m0, m1, m2, m3, H3⟩
                · rw [if_neg he] at H2o
                  simp only [Option.bind_some, he, if_false, Option.some.injEq, Prod.mk.injEq] at H2o
                  obtain ⟨rfl, rfl, rfl, rfl, rfl⟩ := H2o
                  have z5 : (p2 == 0) = false := beq_eq_false_iff_ne.2 he
                  go_wp2_with (first | (go_at_call 41; refine (Any.strings_Trim_laid Tryd.lays160 hz LS[y] ⟨#[32, 9]⟩ wr (by have h1 := HSZ.out.1; omega) (by decide) (by intro j b hb; match j, hb with | 0, hb => obtain rfl := Option.some.inj hb; decide | 1, hb => obtain rfl := Option.some.inj hb; decide)).mono ?_; rintro e w8 ⟨rfl, hb8⟩; rw [show (⟨(Lib.trimS LS[y].data.toList (⟨#[32, 9]⟩ : ByteArray).data.toList).toArray⟩ : ByteArray) = tt from HTT.out]; have HB8 := Aside0.mk hb8; clear hb8) | (go_at_call 42; refine (request_Read.say_forbid k tt HTS.out iN hi hle w2_ p1 p2 p3 _ (GG.below HG.out (below_step HBl.out HB8.out)) hp).mono ?_; rintro e w9 ⟨vv, rfl, ho9, hb9⟩; have HB9 := Aside0.mk (below_step (below_step HBl.out HB8.out) hb9); have HR9 := Aside0.mk (blk_below (blk_below HR.out HB8.out) hb9); clear hb9; have cr0 : w9.cell? ⟨gr, 0, none⟩ = some (.slice none 0 0) := (blk_cell HR9.out 0).trans rfl; have cr1 : w9.cell? ⟨gr, 1, none⟩ = some (.slice none 0 0) := (blk_cell HR9.out 1).trans rfl; have cr2 : w9.cell? ⟨gr, 2, none⟩ = some (.slice none 0 0) := (blk_cell HR9.out 2).trans rfl; have cz0 := blk_frozen HR9.out 0; have cz1 := blk_frozen HR9.out 1; have cz2 := blk_frozen HR9.out 2))
                  refine bodyPost_ret (results_ctt rfl _ _ gr 26 #[.slice none 0 0, .slice none 0 0, .slice none 0 0] (0, 0) _ rfl (request_Read.three HR9.out) Tryd.underlying26 rfl (by kernel_rfl)) rfl ?_
                  exact ⟨_, _, _, (by first | rfl | (rw [← HY2.out]; rfl)), Kd.N_nil _ _ _ _ _, Kd.R_nil _ _ _ _ _, Kd.R_nil _ _ _ _ _, below_set (below_set (below_set HB9.out HGE.out) HGE.out) HGE.out⟩
              · rw [if_neg w2_] at H2o
                by_cases w3_ : tt.extract 0 iN = ⟨#[112, 114, 101, 102, 101, 114]⟩
                · rw [if_pos w3_, Option.bind_assoc] at H2o
                  obtain ⟨⟨p1, p2, p3⟩, hp, H2o⟩ := Option.bind_eq_some_iff.mp H2o
                  simp only at H2o
                  by_cases he : p2 = 0
                  · subst he
                    rw [if_pos rfl] at H2o
                    split at H2o
                    case isFalse => simp at H2o
                    case isTrue hl =>
                    simp only [Option.bind_some, if_true] at H2o
                    have H3 := Aside0.mk H2o
                    have HLL := Aside0.mk hl
                    clear H2o hl
                    go_wp2_with (first | (go_at_call 41; refine (Any.strings_Trim_laid Tryd.lays160 hz LS[y] ⟨#[32, 9]⟩ wr (by have h1 := HSZ.out.1; omega) (by decide) (by intro j b hb; match j, hb with | 0, hb => obtain rfl := Option.some.inj hb; decide | 1, hb => obtain rfl := Option.some.inj hb; decide)).mono ?_; rintro e w8 ⟨rfl, hb8⟩; rw [show (⟨(Lib.trimS LS[y].data.toList (⟨#[32, 9]⟩ : ByteArray).data.toList).toArray⟩ : ByteArray) = tt from HTT.out]; have HB8 := Aside0.mk hb8; clear hb8) | (go_at_call 42; refine (request_Read.say_prefer k tt HTS.out iN hi hle w3_ p1 0 p3 _ (GG.below HG.out (below_step HBl.out HB8.out)) hp).mono ?_; rintro e w9 ⟨vv, rfl, ho9, hb9⟩; obtain ⟨Av, cv, ev⟩ := Kd.R_slice ho9; subst ev; have HO9 := Aside0.mk ho9; have HB9 := Aside0.mk hb9; clear ho9 hb9) | (go_at_call 43; refine (request_Read.put_wish w _ gO v0 v1 v2 q.1 q.2.1 q.2.2 false p1 Av cv (fun k => gO < k ∧ some k ≠ v2.ownBlock) (request_Read.St_below (request_Read.St_below HS.out HB8.out) HB9.out) (below_step (below_step HBl.out HB8.out) HB9.out) HGG.out (Kd.R_F (Kd.R_mono (ok' := fun k => gO < k ∧ some k ≠ v2.ownBlock) (Kd.R_bound HO9.out) (fun k hk => ⟨(request_Read.fresh_ok (request_Read.St_below HS.out HB8.out) k hk.2.1).1.1, (request_Read.fresh_ok (request_Read.St_below HS.out HB8.out) k hk.2.1).1.2.2⟩))) (fun k hk => hk) HLL.out).mono ?_; rintro e w3_0 ⟨rfl, u, hS10, hB10, hST⟩; have m0 := Aside0.mk hS10; have m3 := Aside0.mk hB10; have m4 := Aside0.mk hST; clear hS10 hB10 hST))
                    have m1 := Aside0.mk (m4.out _ _ _ HNS.out (by decide) (by decide) (by decide) (blk_below (blk_below HX.out HB8.out) HB9.out))
                    have m2 := Aside0.mk (m4.out _ _ _ HNR.out (by decide) (by decide) (by decide) (blk_below (blk_below HR.out HB8.out) HB9.out))
                    go_roundg gk2
                    case measure => exact Nat.lt_succ_self gk2
                    case rel => exact ⟨y + 1, v0, v1, u, (q.1, q.2.1, q.2.2 ++ request_Read.wishes false p1), (by first | exact congrArg (Value.int .i64) HY2.out | rfl), HY.out.1, HY.out.2.1, m0, m1, m2, m3, H3⟩
                  · rw [if_neg he] at H2o
                    simp only [Option.bind_some, he, if_false, Option.some.injEq, Prod.mk.injEq] at H2o
                    obtain ⟨rfl, rfl, rfl, rfl, rfl⟩ := H2o
                    have z5 : (p2 == 0) = false := beq_eq_false_iff_ne.2 he
                    go_wp2_with (first | (go_at_call 41; refine (Any.strings_Trim_laid Tryd.lays160 hz LS[y] ⟨#[32, 9]⟩ wr (by have h1 := HSZ.out.1; omega) (by decide) (by intro j b hb; match j, hb with | 0, hb => obtain rfl := Option.some.inj hb; decide | 1, hb => obtain rfl := Option.some.inj hb; decide)).mono ?_; rintro e w8 ⟨rfl, hb8⟩; rw [show (⟨(Lib.trimS LS[y].data.toList (⟨#[32, 9]⟩ : ByteArray).data.toList).toArray⟩ : ByteArray) = tt from HTT.out]; have HB8 := Aside0.mk hb8; clear hb8) | (go_at_call 42; refine (request_Read.say_prefer k tt HTS.out iN hi hle w3_ p1 p2 p3 _ (GG.below HG.out (below_step HBl.out HB8.out)) hp).mono ?_; rintro e w9 ⟨vv, rfl, ho9, hb9⟩; have HB9 := Aside0.mk (below_step (below_step HBl.out HB8.out) hb9); have HR9 := Aside0.mk (blk_below (blk_below HR.out HB8.out) hb9); clear hb9; have cr0 : w9.cell? ⟨gr, 0, none⟩ = some (.slice none 0 0) := (blk_cell HR9.out 0).trans rfl; have cr1 : w9.cell? ⟨gr, 1, none⟩ = some (.slice none 0 0) := (blk_cell HR9.out 1).trans rfl; have cr2 : w9.cell? ⟨gr, 2, none⟩ = some (.slice none 0 0) := (blk_cell HR9.out 2).trans rfl; have cz0 := blk_frozen HR9.out 0; have cz1 := blk_frozen HR9.out 1; have cz2 := blk_frozen HR9.out 2))
                    refine bodyPost_ret (results_ctt rfl _ _ gr 26 #[.slice none 0 0, .slice none 0 0, .slice none 0 0] (0, 0) _ rfl (request_Read.three HR9.out) Tryd.underlying26 rfl (by kernel_rfl)) rfl ?_
                    exact ⟨_, _, _, (by first | rfl | (rw [← HY2.out]; rfl)), Kd.N_nil _ _ _ _ _, Kd.R_nil _ _ _ _ _, Kd.R_nil _ _ _ _ _, below_set (below_set (below_set HB9.out HGE.out) HGE.out) HGE.out⟩
                · rw [if_neg w3_] at H2o
                  by_cases w4_ : tt.extract 0 iN = ⟨#[97, 118, 111, 105, 100]⟩
                  · rw [if_pos w4_, Option.bind_assoc] at H2o
                    obtain ⟨⟨p1, p2, p3⟩, hp, H2o⟩ := Option.bind_eq_some_iff.mp H2o
                    simp only at H2o
                    by_cases he : p2 = 0
                    · subst he
                      rw [if_pos rfl] at H2o
                      split at H2o
                      case isFalse => simp at H2o
                      case isTrue hl =>
                      simp only [Option.bind_some, if_true] at H2o
                      have H3 := Aside0.mk H2o
                      have HLL := Aside0.mk hl
                      clear H2o hl
                      go_wp2_with (first | (go_at_call 41; refine (Any.strings_Trim_laid Tryd.lays160 hz LS[y] ⟨#[32, 9]⟩ wr (by have h1 := HSZ.out.1; omega) (by decide) (by intro j b hb; match j, hb with | 0, hb => obtain rfl := Option.some.inj hb; decide | 1, hb => obtain rfl := Option.some.inj hb; decide)).mono ?_; rintro e w8 ⟨rfl, hb8⟩; rw [show (⟨(Lib.trimS LS[y].data.toList (⟨#[32, 9]⟩ : ByteArray).data.toList).toArray⟩ : ByteArray) = tt from HTT.out]; have HB8 := Aside0.mk hb8; clear hb8) | (go_at_call 42; refine (request_Read.say_avoid k tt HTS.out iN hi hle w4_ p1 0 p3 _ (GG.below HG.out (below_step HBl.out HB8.out)) hp).mono ?_; rintro e w9 ⟨vv, rfl, ho9, hb9⟩; obtain ⟨Av, cv, ev⟩ := Kd.R_slice ho9; subst ev; have HO9 := Aside0.mk ho9; have HB9 := Aside0.mk hb9; clear ho9 hb9) | (go_at_call 43; refine (request_Read.put_wish w _ gO v0 v1 v2 q.1 q.2.1 q.2.2 true p1 Av cv (fun k => gO < k ∧ some k ≠ v2.ownBlock) (request_Read.St_below (request_Read.St_below HS.out HB8.out) HB9.out) (below_step (below_step HBl.out HB8.out) HB9.out) HGG.out (Kd.R_F (Kd.R_mono (ok' := fun k => gO < k ∧ some k ≠ v2.ownBlock) (Kd.R_bound HO9.out) (fun k hk => ⟨(request_Read.fresh_ok (request_Read.St_below HS.out HB8.out) k hk.2.1).1.1, (request_Read.fresh_ok (request_Read.St_below HS.out HB8.out) k hk.2.1).1.2.2⟩))) (fun k hk => hk) HLL.out).mono ?_; rintro e w4_0 ⟨rfl, u, hS10, hB10, hST⟩; have m0 := Aside0.mk hS10; have m3 := Aside0.mk hB10; have m4 := Aside0.mk hST; clear hS10 hB10 hST))
                      have m1 := Aside0.mk (m4.out _ _ _ HNS.out (by decide) (by decide) (by decide) (blk_below (blk_below HX.out HB8.out) HB9.out))
                      have m2 := Aside0.mk (m4.out _ _ _ HNR.out (by decide) (by decide) (by decide) (blk_below (blk_below HR.out HB8.out) HB9.out))
                      go_roundg gk2
                      case measure => exact Nat.lt_succ_self gk2
                      case rel => exact ⟨y + 1, v0, v1, u, (q.1, q.2.1, q.2.2 ++ request_Read.wishes true p1), (by first | exact congrArg (Value.int .i64) HY2.out | rfl), HY.out.1, HY.out.2.1, m0, m1, m2, m3, H3⟩
                    · rw [if_neg he] at H2o
                      simp only [Option.bind_some, he, if_false, Option.some.injEq, Prod.mk.injEq] at H2o
                      obtain ⟨rfl, rfl, rfl, rfl, rfl⟩ := H2o
                      have z5 : (p2 == 0) = false := beq_eq_false_iff_ne.2 he
                      go_wp2_with (first | (go_at_call 41; refine (Any.strings_Trim_laid Tryd.lays160 hz LS[y] ⟨#[32, 9]⟩ wr (by have h1 := HSZ.out.1; omega) (by decide) (by intro j b hb; match j, hb with | 0, hb => obtain rfl := Option.some.inj hb; decide | 1, hb => obtain rfl := Option.some.inj hb; decide)).mono ?_; rintro e w8 ⟨rfl, hb8⟩; rw [show (⟨(Lib.trimS LS[y].data.toList (⟨#[32, 9]⟩ : ByteArray).data.toList).toArray⟩ : ByteArray) = tt from HTT.out]; have HB8 := Aside0.mk hb8; clear hb8) | (go_at_call 42; refine (request_Read.say_avoid k tt HTS.out iN hi hle w4_ p1 p2 p3 _ (GG.below HG.out (below_step HBl.out HB8.out)) hp).mono ?_; rintro e w9 ⟨vv, rfl, ho9, hb9⟩; have HB9 := Aside0.mk (below_step (below_step HBl.out HB8.out) hb9); have HR9 := Aside0.mk (blk_below (blk_below HR.out HB8.out) hb9); clear hb9; have cr0 : w9.cell? ⟨gr, 0, none⟩ = some (.slice none 0 0) := (blk_cell HR9.out 0).trans rfl; have cr1 : w9.cell? ⟨gr, 1, none⟩ = some (.slice none 0 0) := (blk_cell HR9.out 1).trans rfl; have cr2 : w9.cell? ⟨gr, 2, none⟩ = some (.slice none 0 0) := (blk_cell HR9.out 2).trans rfl; have cz0 := blk_frozen HR9.out 0; have cz1 := blk_frozen HR9.out 1; have cz2 := blk_frozen HR9.out 2))
                      refine bodyPost_ret (results_ctt rfl _ _ gr 26 #[.slice none 0 0, .slice none 0 0, .slice none 0 0] (0, 0) _ rfl (request_Read.three HR9.out) Tryd.underlying26 rfl (by kernel_rfl)) rfl ?_
                      exact ⟨_, _, _, (by first | rfl | (rw [← HY2.out]; rfl)), Kd.N_nil _ _ _ _ _, Kd.R_nil _ _ _ _ _, Kd.R_nil _ _ _ _ _, below_set (below_set (below_set HB9.out HGE.out) HGE.out) HGE.out⟩
                  · rw [if_neg w4_] at H2o
                    simp only [Option.bind_some, show ¬ (240 : Int) = 0 by decide, if_false, Option.some.injEq, Prod.mk.injEq] at H2o
                    obtain ⟨rfl, rfl, rfl, rfl, rfl⟩ := H2o
                    go_wp2_with (first | (go_at_call 41; refine (Any.strings_Trim_laid Tryd.lays160 hz LS[y] ⟨#[32, 9]⟩ wr (by have h1 := HSZ.out.1; omega) (by decide) (by intro j b hb; match j, hb with | 0, hb => obtain rfl := Option.some.inj hb; decide | 1, hb => obtain rfl := Option.some.inj hb; decide)).mono ?_; rintro e w8 ⟨rfl, hb8⟩; rw [show (⟨(Lib.trimS LS[y].data.toList (⟨#[32, 9]⟩ : ByteArray).data.toList).toArray⟩ : ByteArray) = tt from HTT.out]; have HB8 := Aside0.mk hb8; clear hb8) | (go_at_call 42; refine (request_Read.say_other tt HTS.out iN hi hle _ rfl w1 w2_ w3_ w4_ _).mono ?_; rintro e w9 ⟨rfl, hb9⟩; have HB9 := Aside0.mk (below_step (below_step HBl.out HB8.out) hb9); have HR9 := Aside0.mk (blk_below (blk_below HR.out HB8.out) hb9); clear hb9; have cr0 : w9.cell? ⟨gr, 0, none⟩ = some (.slice none 0 0) := (blk_cell HR9.out 0).trans rfl; have cr1 : w9.cell? ⟨gr, 1, none⟩ = some (.slice none 0 0) := (blk_cell HR9.out 1).trans rfl; have cr2 : w9.cell? ⟨gr, 2, none⟩ = some (.slice none 0 0) := (blk_cell HR9.out 2).trans rfl; have cz0 := blk_frozen HR9.out 0; have cz1 := blk_frozen HR9.out 1; have cz2 := blk_frozen HR9.out 2))
                    refine bodyPost_ret (results_ctt rfl _ _ gr 26 #[.slice none 0 0, .slice none 0 0, .slice none 0 0] (0, 0) _ rfl (request_Read.three HR9.out) Tryd.underlying26 rfl (by kernel_rfl)) rfl ?_
                    exact ⟨_, _, _, (by first | rfl | (rw [← HY2.out]; rfl)), Kd.N_nil _ _ _ _ _, Kd.R_nil _ _ _ _ _, Kd.R_nil _ _ _ _ _, below_set (below_set (below_set HB9.out HGE.out) HGE.out) HGE.out⟩
    · obtain rfl : y = LS.length := by omega
      have H := HN.out
      rw [List.drop_length, request_Read.lines] at H
      obtain ⟨L9, F9, W9⟩ := q
      simp only [Option.some.injEq, Prod.mk.injEq] at H
      obtain ⟨rfl, rfl, rfl, rfl, rfl⟩ := H
      clear HN
      simp only at HS
      have q0 : decide ((LS.length : Int) < (n : Int) + 1) = false := decide_eq_false (by omega)
      have q2 : ((LS.length : Int) < (n : Int) + 1) = False := eq_false (by omega)
      obtain ⟨Ao1, co1, eo1⟩ := Kd.N_slice HS.out.2.1
      subst eo1
      obtain ⟨Ao2, co2, eo2⟩ := Kd.R_slice HS.out.2.2.1
      subst eo2
      obtain ⟨Ao3, co3, eo3⟩ := Kd.R_slice HS.out.2.2.2
      subst eo3
      have hng := HNR.out
      have hnh := Ne.symm HNR.out
      have ca0 : wr.cell? ⟨gO, 0, none⟩ = some (.slice Ao1 L9.length co1) := (blk_cell HS.out.1 0).trans rfl
      have ca1 : wr.cell? ⟨gO, 1, none⟩ = some (.slice Ao2 F9.length co2) := (blk_cell HS.out.1 1).trans rfl
      have ca2 : wr.cell? ⟨gO, 2, none⟩ = some (.slice Ao3 W9.length co3) := (blk_cell HS.out.1 2).trans rfl
      have cf0 := blk_frozen HS.out.1 0
      have cf1 := blk_frozen HS.out.1 1
      have cf2 := blk_frozen HS.out.1 2
      have cr0 : wr.cell? ⟨gr, 0, none⟩ = some (.slice none 0 0) := (blk_cell HR.out 0).trans rfl
      have cr1 : wr.cell? ⟨gr, 1, none⟩ = some (.slice none 0 0) := (blk_cell HR.out 1).trans rfl
      have cr2 : wr.cell? ⟨gr, 2, none⟩ = some (.slice none 0 0) := (blk_cell HR.out 2).trans rfl
      have cz0 := blk_frozen HR.out 0
      have cz1 := blk_frozen HR.out 1
      have cz2 := blk_frozen HR.out 2
      have HGE := Aside0.mk (show w.heap.size ≤ gr by have h1 := GR.out; omega)
      have HFR := Aside0.mk (show ∀ k, gO < k → k ≠ gr by have h1 := GO.out; intro k hk; omega)
      have HLO := Aside0.mk (show ∀ k, gO < k → w.heap.size ≤ k by have h1 := HGG.out; intro k hk; omega)
      go_wp2
      refine bodyPost_ret (results_ctt rfl _ _ gr 26 #[.slice Ao1 L9.length co1, .slice Ao2 F9.length co2, .slice Ao3 W9.length co3] (0, 0) _ rfl (request_Read.three HR.out) Tryd.underlying26 rfl (by kernel_rfl)) rfl ?_
      refine ⟨_, _, _, rfl, ?_, ?_, ?_, below_set (below_set (below_set HBl.out HGE.out) HGE.out) HGE.out⟩
      · exact Kd.N_mono (Kd.N_far (p := ⟨gr, 2, none⟩) (Kd.N_far (p := ⟨gr, 1, none⟩) (Kd.N_far (p := ⟨gr, 0, none⟩) HS.out.2.1 (fun k hk => HFR.out k hk.1) _) (fun k hk => HFR.out k hk.1) _) (fun k hk => HFR.out k hk.1) _) (fun k hk => ⟨HLO.out k hk.1, hk.2⟩)
      · exact Kd.R_mono (Kd.R_far (p := ⟨gr, 2, none⟩) (Kd.R_far (p := ⟨gr, 1, none⟩) (Kd.R_far (p := ⟨gr, 0, none⟩) HS.out.2.2.1 (fun k hk => HFR.out k hk) _) (fun k hk => HFR.out k hk) _) (fun k hk => HFR.out k hk) _) (fun k hk => HLO.out k hk)
      · exact Kd.R_mono (Kd.R_far (p := ⟨gr, 2, none⟩) (Kd.R_far (p := ⟨gr, 1, none⟩) (Kd.R_far (p := ⟨gr, 0, none⟩) HS.out.2.2.2 (fun k hk => HFR.out k hk) _) (fun k hk => HFR.out k hk) _) (fun k hk => HFR.out k hk) _) (fun k hk => HLO.out k hk)
end Go.Proofs.YtmocooihkobdjaaDoor.G
end
