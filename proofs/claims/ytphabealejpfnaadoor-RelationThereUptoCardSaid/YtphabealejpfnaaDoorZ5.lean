-- printed by wip/myprint.py of this session over the kit's print.py; Lean checks it
import Derived.Test.YtphabealejpfnaaDoorZ0
import Derived.Test.YtphabealejpfnaaDoorZ2
import Derived.Test.YtphabealejpfnaaDoorZ3
import Derived.Test.YtphabealejpfnaaDoorZ4
namespace Go.Proofs.YtphabealejpfnaaDoor.Z
open Go.RowKit Go.Proofs.YtphabealejpfnaaDoorW.PrintWords Go.Proofs.YtphabealejpfnaaDoorW.PrintLast Go.Proofs.YtphabealejpfnaaDoorW.PrintMore
attribute [local go_sem] max2_int min2_int max_two min_two max_three min_three max_four min_four   -- for this text's walks alone
set_option linter.unusedVariables false
set_option linter.unusedSimpArgs false

/-! ### relation_reader_relation: function 56 -/
/-- Which operator a text is; 0: none. -/
def opOf (m : ByteArray) : Int := if m.toList = [60, 60] then 1 else if m.toList = [60, 61] then 2 else if m.toList = [61] then 3 else if m.toList = [62, 61] then 4 else if m.toList = [62, 62] then 5 else 0
def opTo (m : ByteArray) (z : Int) : Int := if opOf m ≤ z then opOf m else 0
theorem opOf_bd (m : ByteArray) : 0 ≤ opOf m ∧ opOf m ≤ 5 := by
  unfold opOf
  repeat' split
  all_goals omega
theorem opIdxR0 (w : World) : (Instr.index 66 (.agg #[.int .i64 1, .string ⟨#[60, 60]⟩, .int .i64 2, .string ⟨#[60, 61]⟩, .int .i64 3, .string ⟨#[61]⟩, .int .i64 4, .string ⟨#[62, 61]⟩, .int .i64 5, .string ⟨#[62, 62]⟩]) (.int .i64 0)).run Tryd.prog w = .ok (.agg #[.int .i64 1, .string ⟨#[60, 60]⟩]) w := by kernel_rfl
theorem opIdxR1 (w : World) : (Instr.index 66 (.agg #[.int .i64 1, .string ⟨#[60, 60]⟩, .int .i64 2, .string ⟨#[60, 61]⟩, .int .i64 3, .string ⟨#[61]⟩, .int .i64 4, .string ⟨#[62, 61]⟩, .int .i64 5, .string ⟨#[62, 62]⟩]) (.int .i64 1)).run Tryd.prog w = .ok (.agg #[.int .i64 2, .string ⟨#[60, 61]⟩]) w := by kernel_rfl
theorem opIdxR2 (w : World) : (Instr.index 66 (.agg #[.int .i64 1, .string ⟨#[60, 60]⟩, .int .i64 2, .string ⟨#[60, 61]⟩, .int .i64 3, .string ⟨#[61]⟩, .int .i64 4, .string ⟨#[62, 61]⟩, .int .i64 5, .string ⟨#[62, 62]⟩]) (.int .i64 2)).run Tryd.prog w = .ok (.agg #[.int .i64 3, .string ⟨#[61]⟩]) w := by kernel_rfl
theorem opIdxR3 (w : World) : (Instr.index 66 (.agg #[.int .i64 1, .string ⟨#[60, 60]⟩, .int .i64 2, .string ⟨#[60, 61]⟩, .int .i64 3, .string ⟨#[61]⟩, .int .i64 4, .string ⟨#[62, 61]⟩, .int .i64 5, .string ⟨#[62, 62]⟩]) (.int .i64 3)).run Tryd.prog w = .ok (.agg #[.int .i64 4, .string ⟨#[62, 61]⟩]) w := by kernel_rfl
theorem opIdxR4 (w : World) : (Instr.index 66 (.agg #[.int .i64 1, .string ⟨#[60, 60]⟩, .int .i64 2, .string ⟨#[60, 61]⟩, .int .i64 3, .string ⟨#[61]⟩, .int .i64 4, .string ⟨#[62, 61]⟩, .int .i64 5, .string ⟨#[62, 62]⟩]) (.int .i64 4)).run Tryd.prog w = .ok (.agg #[.int .i64 5, .string ⟨#[62, 62]⟩]) w := by kernel_rfl
theorem opOf_iff (m : ByteArray) : (opOf m = 1 ↔ m.toList = [60, 60]) ∧ (opOf m = 2 ↔ m.toList = [60, 61]) ∧ (opOf m = 3 ↔ m.toList = [61]) ∧ (opOf m = 4 ↔ m.toList = [62, 61]) ∧ (opOf m = 5 ↔ m.toList = [62, 62]) := by
  unfold opOf
  repeat' split
  all_goals simp_all
theorem opTo_zero (m : ByteArray) : opTo m 0 = 0 := by
  have := opOf_bd m
  unfold opTo
  split <;> omega
theorem opTo_five (m : ByteArray) : opTo m 5 = opOf m := if_pos (opOf_bd m).2
theorem opTo_hit (m : ByteArray) (z : Int) (h : opOf m = z) : opTo m z = z := by
  unfold opTo
  rw [if_pos (by omega), h]
theorem opTo_miss (m : ByteArray) (z : Int) (h : ¬ opOf m = z + 1) : opTo m (z + 1) = opTo m z := by
  unfold opTo
  by_cases h2 : opOf m ≤ z
  · rw [if_pos h2, if_pos (by omega)]
  · rw [if_neg h2, if_neg (by omega)]
theorem below_alloc' {w0 w : World} (h : Below w0.heap.size w0 w) (o : Obj) : Below w0.heap.size w0 (w.alloc o) := h.alloc h.size o
theorem below_setN {w0 w : World} {j : Nat} {v : Value} {b : Nat} (h : Below w0.heap.size w0 w) (hb : w0.heap.size ≤ b) : Below w0.heap.size w0 (w.setCell ⟨b, j, none⟩ v) := h.setCell hb _
def noRel (e : Int) (s : ByteArray) (a : Int) : ByteArray × Int × ByteArray × Int × ByteArray × Int := (⟨#[]⟩, 0, ⟨#[]⟩, e, s, a)
def relation_reader_relation.f (k : Nat) (s0_0 : ByteArray) (s0_1 : Int) : Option (ByteArray × Int × ByteArray × Int × ByteArray × Int) :=
  (relation_reader_run.f k s0_0 s0_1 false).bind fun x1 => if x1.1.toList = [] then some (noRel 220 x1.2.1 x1.2.2) else
  (relation_Name.f k x1.1).bind fun nm => if nm = false then some (noRel 230 x1.2.1 x1.2.2) else
  (relation_reader_pass.f k x1.2.1 x1.2.2 x1.1.size).bind fun x2 => (relation_reader_takes.f k x2.1 x2.2 40).bind fun x3 => if x3.1 = false then some (x1.1, 0, ⟨#[]⟩, 0, x3.2.1, x3.2.2) else
  (relation_reader_run.f k x3.2.1 x3.2.2 true).bind fun x4 => if opOf x4.1 = 0 then some (noRel 220 x4.2.1 x4.2.2) else
  (relation_reader_pass.f k x4.2.1 x4.2.2 x4.1.size).bind fun x5 => (relation_reader_run.f k x5.1 x5.2 false).bind fun x6 => if x6.1.toList = [] then some (noRel 220 x6.2.1 x6.2.2) else
  (version_Legal.f k x6.1).bind fun lg => if lg = false then some (noRel 200 x6.2.1 x6.2.2) else
  (relation_reader_pass.f k x6.2.1 x6.2.2 x6.1.size).bind fun x7 => (relation_reader_takes.f k x7.1 x7.2 41).bind fun x8 => if x8.1 = false then some (noRel 220 x8.2.1 x8.2.2) else some (x1.1, opOf x4.1, x6.1, 0, x8.2.1, x8.2.2)
theorem relation_reader_relation.mono : ∀ a0 a1 k, LeO (relation_reader_relation.f k a0 a1) (relation_reader_relation.f (k + 1) a0 a1) := by
  intro a0 a1 k
  unfold relation_reader_relation.f
  repeat' first
      | (with_reducible exact relation_reader_run.mono _ _ _ _)
      | (with_reducible exact relation_Name.mono _ _)
      | (with_reducible exact relation_reader_pass.mono _ _ _ _)
      | (with_reducible exact relation_reader_takes.mono _ _ _ _)
      | (with_reducible exact version_Legal.mono _ _)
      | (with_reducible exact LeO.refl _)
      | (with_reducible refine LeO.ite ?_ ?_)
      | (with_reducible refine LeO.bind ?_ (fun _ => ?_))
set_option maxHeartbeats 8000000 in
set_option maxRecDepth 1000000 in
theorem relation_reader_relation.calls (k : Nat) (g : Nat) (s0_0 : ByteArray) (s0_1 : Int) (r1 : ByteArray) (r2 : Int) (r3 : ByteArray) (r4 : Int) (r5 : ByteArray) (r6 : Int) (w0 w : World) (hI : IsS76 w0 w g s0_0 s0_1) (hB : Below w0.heap.size w0 w) (hG : GG w0) (h : relation_reader_relation.f k s0_0 s0_1 = some (r1, r2, r3, r4, r5, r6)) :
    Calls Tryd.prog 56 #[.pointer (some ⟨g, 0, none⟩)] w fun e w' => e = .returned (.tuple #[.agg #[.string r1, .int .i64 r2, .string r3], .int .i64 r4]) ∧ IsS76 w0 w' g r5 r6 ∧ Below w0.heap.size w0 w' ∧ KeepBut w w' g none := by
  unfold relation_reader_relation.f at h
  have hu23 := Tryd.underlying23
  have hu65 := Tryd.underlying65
  have hlt := hI.lt
  have Hlt := Lib.hid hlt
  have Hge := Lib.hid hI.ge
  have HI0 := Lib.hid (hI.alloc (.cells #[.string ⟨#[]⟩, .int .i64 0, .string ⟨#[]⟩] 23 (0, 0)))
  have HB0 := Lib.hid (below_alloc' hB (.cells #[.string ⟨#[]⟩, .int .i64 0, .string ⟨#[]⟩] 23 (0, 0)))
  have HK0 := Lib.hid (keep_alloc (KeepBut.refl w g none) (.cells #[.string ⟨#[]⟩, .int .i64 0, .string ⟨#[]⟩] 23 (0, 0)))
  have HR0 := Lib.hid (blk_new w (.cells #[.string ⟨#[]⟩, .int .i64 0, .string ⟨#[]⟩] 23 (0, 0)))
  have HG := Lib.hid hG
  clear hI hB hG hlt
  have Hbw : Hid (w0.heap.size ≤ w.heap.size) := Nat.le_of_lt (Nat.lt_of_le_of_lt Hge.out Hlt.out)
  replace h := Option.bind_eq_some_iff.mp h
  obtain ⟨⟨v1, s1, a1⟩, h1, h⟩ := h
  have H1 := Lib.hid h1; clear h1
  have H := Lib.hid h; clear h
  go_enter Tryd.func56, Tryd.ntmps56
  go_wp2_with fail
  refine (relation_reader_run.calls _ _ _ _ _ _ _ _ w0 _ HI0.out HB0.out H1.out).mono ?_
  rintro e w1 ⟨rfl, hI, hB, hK⟩
  have HI1 := Lib.hid hI; have HB1 := Lib.hid hB; have HK1 := Lib.hid (KeepBut.trans HK0.out hK (.inl rfl))
  have HR1 := Lib.hid (hK.blk HR0.out (Nat.ne_of_gt Hlt.out) (by simp))
  clear hI hB hK
  by_cases e1 : v1.toList = []
  · have h := H.out
    rw [if_pos e1] at h
    simp only [Option.some.injEq, noRel, Prod.mk.injEq] at h
    obtain ⟨rfl, rfl, rfl, rfl, rfl, rfl⟩ := h
    have e1b : v1.toList.isEmpty = true := by rw [e1]; rfl
    have rc0 := blk_cell HR1.out 0
    have rc1 := blk_cell HR1.out 1
    have rc2 := blk_cell HR1.out 2
    have rz0 := blk_frozen HR1.out 0
    have rz1 := blk_frozen HR1.out 1
    have rz2 := blk_frozen HR1.out 2
    simp only [List.getElem?_toArray, List.getElem?_cons_succ, List.getElem?_cons_zero] at rc0 rc1 rc2
    go_wp2_with fail
    refine bodyPost_ret (results_ct rfl _ _ w.heap.size 23 #[.string ⟨#[]⟩, .int .i64 0, .string ⟨#[]⟩] (0, 0) _ rfl (blk_put (blk_put (blk_put HR1.out 0 _ rfl) 1 _ rfl) 2 _ rfl) Tryd.underlying23 rfl rfl) rfl ⟨rfl, (((HI1.out.far (Nat.ne_of_lt Hlt.out) _).far (Nat.ne_of_lt Hlt.out) _).far (Nat.ne_of_lt Hlt.out) _), below_setN (below_setN (below_setN HB1.out Hbw.out) Hbw.out) Hbw.out, keep_far (keep_far (keep_far HK1.out (Nat.le_refl _) _) (Nat.le_refl _) _) (Nat.le_refl _) _⟩
  have h := H.out
  clear H
  rw [if_neg e1] at h
  have e1b : v1.toList.isEmpty = false := by simpa using e1
  clear e1
  replace h := Option.bind_eq_some_iff.mp h
  obtain ⟨nm, h2, h⟩ := h
  have H2 := Lib.hid h2; clear h2
  have H := Lib.hid h; clear h
  go_wp2_with fail
  refine (relation_Name.calls _ _ _ _ H2.out).mono ?_
  rintro e w2 ⟨rfl, hd⟩
  have Hd := Lib.hid hd; clear hd
  clear e1b
  have HI2 : Hid (IsS76 w0 w2 g s1 a1) := by obtain ⟨nd, rfl⟩ := Hd.out.out; exact HI1.out.drewN nd
  have HB2 : Hid (Below w0.heap.size w0 w2) := by obtain ⟨nd, rfl⟩ := Hd.out.out; exact pw_below_drewN HB1.out nd
  have HK2 : Hid (KeepBut w w2 g none) := by obtain ⟨nd, rfl⟩ := Hd.out.out; exact keep_drewN HK1.out nd
  have HR2 : Hid (w2.heap[w.heap.size]? = some (.cells #[.string ⟨#[]⟩, .int .i64 0, .string ⟨#[]⟩] 23 (0, 0))) := by obtain ⟨nd, rfl⟩ := Hd.out.out; exact blk_drewN HR1.out nd
  cases nm with
  | false =>
    have h := H.out
    rw [if_pos rfl] at h
    simp only [Option.some.injEq, noRel, Prod.mk.injEq] at h
    obtain ⟨rfl, rfl, rfl, rfl, rfl, rfl⟩ := h
    have rc0 := blk_cell HR2.out 0
    have rc1 := blk_cell HR2.out 1
    have rc2 := blk_cell HR2.out 2
    have rz0 := blk_frozen HR2.out 0
    have rz1 := blk_frozen HR2.out 1
    have rz2 := blk_frozen HR2.out 2
    simp only [List.getElem?_toArray, List.getElem?_cons_succ, List.getElem?_cons_zero] at rc0 rc1 rc2
    go_wp2_with fail
    refine bodyPost_ret (results_ct rfl _ _ w.heap.size 23 #[.string ⟨#[]⟩, .int .i64 0, .string ⟨#[]⟩] (0, 0) _ rfl (blk_put (blk_put (blk_put HR2.out 0 _ rfl) 1 _ rfl) 2 _ rfl) Tryd.underlying23 rfl rfl) rfl ⟨rfl, (((HI2.out.far (Nat.ne_of_lt Hlt.out) _).far (Nat.ne_of_lt Hlt.out) _).far (Nat.ne_of_lt Hlt.out) _), below_setN (below_setN (below_setN HB2.out Hbw.out) Hbw.out) Hbw.out, keep_far (keep_far (keep_far HK2.out (Nat.le_refl _) _) (Nat.le_refl _) _) (Nat.le_refl _) _⟩
  | true =>
    have h := H.out
    clear H
    rw [if_neg (by simp)] at h
    replace h := Option.bind_eq_some_iff.mp h
    obtain ⟨⟨s2, a2⟩, h3, h⟩ := h
    have H3 := Lib.hid h3; clear h3
    replace h := Option.bind_eq_some_iff.mp h
    obtain ⟨⟨b3, s3, a3⟩, h4, h⟩ := h
    have H4 := Lib.hid h4; clear h4
    have H := Lib.hid h; clear h
    have HW1 : Hid (w.heap.size < w2.heap.size) := blk_lt HR2.out
    have HNP : Hid (w2.heap.size ≠ g) := Nat.ne_of_gt (Nat.lt_trans Hlt.out HW1.out)
    have HNRP : Hid (w.heap.size ≠ w2.heap.size) := Nat.ne_of_lt HW1.out
    have HBP : Hid (w0.heap.size ≤ w2.heap.size) := Nat.le_trans Hbw.out (Nat.le_of_lt HW1.out)
    have HIa := Lib.hid (HI2.out.alloc (.cells #[.string v1, .int .i64 0, .string ⟨#[]⟩] 23 (0, 0))); have HBa := Lib.hid (below_alloc' HB2.out (.cells #[.string v1, .int .i64 0, .string ⟨#[]⟩] 23 (0, 0))); have HKa := Lib.hid (keep_alloc HK2.out (.cells #[.string v1, .int .i64 0, .string ⟨#[]⟩] 23 (0, 0))); have HRa := Lib.hid (blk_alloc HR2.out (.cells #[.string v1, .int .i64 0, .string ⟨#[]⟩] 23 (0, 0))); have HPa := Lib.hid (blk_new w2 (.cells #[.string v1, .int .i64 0, .string ⟨#[]⟩] 23 (0, 0)))
    go_wp2_with fail
    refine (relation_reader_pass.calls _ _ _ _ _ _ _ w0 _ HIa.out HBa.out H3.out).mono ?_
    rintro e wb ⟨rfl, hI, hB, hK⟩
    have HIb := Lib.hid hI; have HBb := Lib.hid hB; have HKb := Lib.hid (KeepBut.trans HKa.out hK (.inl rfl))
    have HRb := Lib.hid (hK.blk HRa.out (Nat.ne_of_gt Hlt.out) (by simp))
    have HPb := Lib.hid (hK.blk HPa.out HNP.out (by simp))
    clear hI hB hK
    go_wp2_with fail
    refine (relation_reader_takes.calls _ _ _ _ _ _ _ _ w0 _ HIb.out HBb.out H4.out).mono ?_
    rintro e wc ⟨rfl, hI, hB, hK⟩
    have HIc := Lib.hid hI; have HBc := Lib.hid hB; have HKc := Lib.hid (KeepBut.trans HKb.out hK (.inl rfl))
    have HRc := Lib.hid (hK.blk HRb.out (Nat.ne_of_gt Hlt.out) (by simp))
    have HPc := Lib.hid (hK.blk HPb.out HNP.out (by simp))
    clear hI hB hK
    cases b3 with
    | false =>
      have h := H.out
      rw [if_pos rfl] at h
      simp only [Option.some.injEq, Prod.mk.injEq] at h
      obtain ⟨rfl, rfl, rfl, rfl, rfl, rfl⟩ := h
      have rc0 := blk_cell HRc.out 0
      have rc1 := blk_cell HRc.out 1
      have rc2 := blk_cell HRc.out 2
      have rz0 := blk_frozen HRc.out 0
      have rz1 := blk_frozen HRc.out 1
      have rz2 := blk_frozen HRc.out 2
      simp only [List.getElem?_toArray, List.getElem?_cons_succ, List.getElem?_cons_zero] at rc0 rc1 rc2
      have pc0 := blk_cell HPc.out 0
      have pc1 := blk_cell HPc.out 1
      have pc2 := blk_cell HPc.out 2
      simp only [List.getElem?_toArray, List.getElem?_cons_succ, List.getElem?_cons_zero] at pc0 pc1 pc2
      go_wp2_with fail
      refine bodyPost_ret (results_ct rfl _ _ w.heap.size 23 #[.string v1, .int .i64 0, .string ⟨#[]⟩] (0, 0) _ rfl (blk_put (blk_put (blk_put HRc.out 0 _ rfl) 1 _ rfl) 2 _ rfl) Tryd.underlying23 rfl rfl) rfl ⟨rfl, (((HIc.out.far (Nat.ne_of_lt Hlt.out) _).far (Nat.ne_of_lt Hlt.out) _).far (Nat.ne_of_lt Hlt.out) _), below_setN (below_setN (below_setN HBc.out Hbw.out) Hbw.out) Hbw.out, keep_far (keep_far (keep_far HKc.out (Nat.le_refl _) _) (Nat.le_refl _) _) (Nat.le_refl _) _⟩
    | true =>
      have h := H.out
      clear H
      rw [if_neg (by simp)] at h
      replace h := Option.bind_eq_some_iff.mp h
      obtain ⟨⟨m4, s4, a4⟩, h5, h⟩ := h
      have H5 := Lib.hid h5; clear h5
      have H := Lib.hid h; clear h
      go_wp2_with fail
      refine (relation_reader_run.calls _ _ _ _ _ _ _ _ w0 _ HIc.out HBc.out H5.out).mono ?_
      rintro e wd ⟨rfl, hI, hB, hK⟩
      have HId := Lib.hid hI; have HBd := Lib.hid hB; have HKd := Lib.hid (KeepBut.trans HKc.out hK (.inl rfl))
      have HRd := Lib.hid (hK.blk HRc.out (Nat.ne_of_gt Hlt.out) (by simp))
      have HPd := Lib.hid (hK.blk HPc.out HNP.out (by simp))
      clear hI hB hK
      have HGd := Lib.hid (GG.below HG.out HBd.out)
      obtain ⟨tg, fg, hG0⟩ := HGd.out
      have HG0 := Lib.hid hG0; clear hG0
      have i0 := opIdxR0; have i1 := opIdxR1; have i2 := opIdxR2; have i3 := opIdxR3; have i4 := opIdxR4
      go_wp2_with (refine wpList_load_row rfl 66 _ rfl 0 rfl tg _ fg _ HG0.out Tryd.underlying66 rfl (by kernel_rfl) ?_; unfold opCells)
      go_loopw [32] (fun v wr => ∃ z : Int, 0 ≤ z ∧ z ≤ 5 ∧ v = .int .i64 z ∧ Hid (IsS76 w0 wr g s4 a4) ∧ Hid (Below w0.heap.size w0 wr) ∧ Hid (KeepBut w wr g none) ∧ Hid (wr.heap[w.heap.size]? = some (.cells #[.string ⟨#[]⟩, .int .i64 0, .string ⟨#[]⟩] 23 (0, 0))) ∧ Hid (wr.heap[w2.heap.size]? = some (.cells #[.string v1, .int .i64 (opTo m4 z), .string ⟨#[]⟩] 23 (0, 0)))) (fun v _ => (5 - intOf v).toNat)
      case atStart => exact ⟨0, by omega, by omega, rfl, HId.out, HBd.out, HKd.out, HRd.out, by rw [opTo_zero]; exact HPd.out⟩
      case round =>
        obtain ⟨z, z0, z5, rfl, hI, hB, hK, hR, hP⟩ := hrel
        have HIe := Lib.hid hI.out; have HBe := Lib.hid hB.out; have HKe := Lib.hid hK.out; have HRe := Lib.hid hR.out; have HPe := Lib.hid hP.out
        clear hI hB hK hR hP
        have Hz : z = 0 ∨ z = 1 ∨ z = 2 ∨ z = 3 ∨ z = 4 ∨ z = 5 := by omega
        rcases Hz with rfl | rfl | rfl | rfl | rfl | rfl
        case inl =>
          by_cases he : opOf m4 = 1
          · have hl := (opOf_iff m4).1.1 he
            have hb1 : (([60, 60] : List UInt8) == m4.toList) = true := by rw [hl]; rfl
            have hpc : ∀ o, (wr.alloc o).cell? ⟨w2.heap.size, 1, none⟩ = some (.int .i64 (opTo m4 0)) := fun o => blk_cell (blk_alloc HPe.out o) 1
            have hpz : ∀ o, (wr.alloc o).frozen? ⟨w2.heap.size, 1, none⟩ = false := fun o => blk_frozen (blk_alloc HPe.out o) 1
            have Het := Lib.hid (opTo_hit m4 1 he)
            clear hl he
            go_wp2_with fail
            go_roundw
            case rel => exact ⟨1, by omega, by omega, rfl, (HIe.out.alloc _).far (Ne.symm HNP.out) _, below_setN (below_alloc' HBe.out _) HBP.out, keep_far (keep_alloc HKe.out _) (Nat.le_of_lt HW1.out) _, blk_far (blk_alloc HRe.out _) HNRP.out _, by rw [Het.out]; exact blk_put (blk_alloc HPe.out _) 1 _ rfl⟩
            case measure => simp [intOf]
          · have hl : ¬ m4.toList = [60, 60] := fun q => he ((opOf_iff m4).1.2 q)
            have hb1 : (([60, 60] : List UInt8) == m4.toList) = false := by rw [beq_eq_false_iff_ne]; exact fun q => hl q.symm
            have Het : Hid (opTo m4 1 = opTo m4 0) := opTo_miss m4 0 he
            clear hl he
            go_wp2_with fail
            go_roundw
            case rel => exact ⟨1, by omega, by omega, rfl, HIe.out.alloc _, below_alloc' HBe.out _, keep_alloc HKe.out _, blk_alloc HRe.out _, by rw [Het.out]; exact blk_alloc HPe.out _⟩
            case measure => simp [intOf]
        case inr.inl =>
          by_cases he : opOf m4 = 2
          · have hl := (opOf_iff m4).2.1.1 he
            have hb1 : (([60, 61] : List UInt8) == m4.toList) = true := by rw [hl]; rfl
            have hpc : ∀ o, (wr.alloc o).cell? ⟨w2.heap.size, 1, none⟩ = some (.int .i64 (opTo m4 1)) := fun o => blk_cell (blk_alloc HPe.out o) 1
            have hpz : ∀ o, (wr.alloc o).frozen? ⟨w2.heap.size, 1, none⟩ = false := fun o => blk_frozen (blk_alloc HPe.out o) 1
            have Het := Lib.hid (opTo_hit m4 2 he)
            clear hl he
            go_wp2_with fail
            go_roundw
            case rel => exact ⟨2, by omega, by omega, rfl, (HIe.out.alloc _).far (Ne.symm HNP.out) _, below_setN (below_alloc' HBe.out _) HBP.out, keep_far (keep_alloc HKe.out _) (Nat.le_of_lt HW1.out) _, blk_far (blk_alloc HRe.out _) HNRP.out _, by rw [Het.out]; exact blk_put (blk_alloc HPe.out _) 1 _ rfl⟩
            case measure => simp [intOf]
          · have hl : ¬ m4.toList = [60, 61] := fun q => he ((opOf_iff m4).2.1.2 q)
            have hb1 : (([60, 61] : List UInt8) == m4.toList) = false := by rw [beq_eq_false_iff_ne]; exact fun q => hl q.symm
            have Het : Hid (opTo m4 2 = opTo m4 1) := opTo_miss m4 1 he
            clear hl he
            go_wp2_with fail
            go_roundw
            case rel => exact ⟨2, by omega, by omega, rfl, HIe.out.alloc _, below_alloc' HBe.out _, keep_alloc HKe.out _, blk_alloc HRe.out _, by rw [Het.out]; exact blk_alloc HPe.out _⟩
            case measure => simp [intOf]
        case inr.inr.inl =>
          by_cases he : opOf m4 = 3
          · have hl := (opOf_iff m4).2.2.1.1 he
            have hb1 : (([61] : List UInt8) == m4.toList) = true := by rw [hl]; rfl
            have hpc : ∀ o, (wr.alloc o).cell? ⟨w2.heap.size, 1, none⟩ = some (.int .i64 (opTo m4 2)) := fun o => blk_cell (blk_alloc HPe.out o) 1
            have hpz : ∀ o, (wr.alloc o).frozen? ⟨w2.heap.size, 1, none⟩ = false := fun o => blk_frozen (blk_alloc HPe.out o) 1
            have Het := Lib.hid (opTo_hit m4 3 he)
            clear hl he
            go_wp2_with fail
            go_roundw
            case rel => exact ⟨3, by omega, by omega, rfl, (HIe.out.alloc _).far (Ne.symm HNP.out) _, below_setN (below_alloc' HBe.out _) HBP.out, keep_far (keep_alloc HKe.out _) (Nat.le_of_lt HW1.out) _, blk_far (blk_alloc HRe.out _) HNRP.out _, by rw [Het.out]; exact blk_put (blk_alloc HPe.out _) 1 _ rfl⟩
            case measure => simp [intOf]
          · have hl : ¬ m4.toList = [61] := fun q => he ((opOf_iff m4).2.2.1.2 q)
            have hb1 : (([61] : List UInt8) == m4.toList) = false := by rw [beq_eq_false_iff_ne]; exact fun q => hl q.symm
            have Het : Hid (opTo m4 3 = opTo m4 2) := opTo_miss m4 2 he
            clear hl he
            go_wp2_with fail
            go_roundw
            case rel => exact ⟨3, by omega, by omega, rfl, HIe.out.alloc _, below_alloc' HBe.out _, keep_alloc HKe.out _, blk_alloc HRe.out _, by rw [Het.out]; exact blk_alloc HPe.out _⟩
            case measure => simp [intOf]
        case inr.inr.inr.inl =>
          by_cases he : opOf m4 = 4
          · have hl := (opOf_iff m4).2.2.2.1.1 he
            have hb1 : (([62, 61] : List UInt8) == m4.toList) = true := by rw [hl]; rfl
            have hpc : ∀ o, (wr.alloc o).cell? ⟨w2.heap.size, 1, none⟩ = some (.int .i64 (opTo m4 3)) := fun o => blk_cell (blk_alloc HPe.out o) 1
            have hpz : ∀ o, (wr.alloc o).frozen? ⟨w2.heap.size, 1, none⟩ = false := fun o => blk_frozen (blk_alloc HPe.out o) 1
            have Het := Lib.hid (opTo_hit m4 4 he)
            clear hl he
            go_wp2_with fail
            go_roundw
            case rel => exact ⟨4, by omega, by omega, rfl, (HIe.out.alloc _).far (Ne.symm HNP.out) _, below_setN (below_alloc' HBe.out _) HBP.out, keep_far (keep_alloc HKe.out _) (Nat.le_of_lt HW1.out) _, blk_far (blk_alloc HRe.out _) HNRP.out _, by rw [Het.out]; exact blk_put (blk_alloc HPe.out _) 1 _ rfl⟩
            case measure => simp [intOf]
          · have hl : ¬ m4.toList = [62, 61] := fun q => he ((opOf_iff m4).2.2.2.1.2 q)
            have hb1 : (([62, 61] : List UInt8) == m4.toList) = false := by rw [beq_eq_false_iff_ne]; exact fun q => hl q.symm
            have Het : Hid (opTo m4 4 = opTo m4 3) := opTo_miss m4 3 he
            clear hl he
            go_wp2_with fail
            go_roundw
            case rel => exact ⟨4, by omega, by omega, rfl, HIe.out.alloc _, below_alloc' HBe.out _, keep_alloc HKe.out _, blk_alloc HRe.out _, by rw [Het.out]; exact blk_alloc HPe.out _⟩
            case measure => simp [intOf]
        case inr.inr.inr.inr.inl =>
          by_cases he : opOf m4 = 5
          · have hl := (opOf_iff m4).2.2.2.2.1 he
            have hb1 : (([62, 62] : List UInt8) == m4.toList) = true := by rw [hl]; rfl
            have hpc : ∀ o, (wr.alloc o).cell? ⟨w2.heap.size, 1, none⟩ = some (.int .i64 (opTo m4 4)) := fun o => blk_cell (blk_alloc HPe.out o) 1
            have hpz : ∀ o, (wr.alloc o).frozen? ⟨w2.heap.size, 1, none⟩ = false := fun o => blk_frozen (blk_alloc HPe.out o) 1
            have Het := Lib.hid (opTo_hit m4 5 he)
            clear hl he
            go_wp2_with fail
            go_roundw
            case rel => exact ⟨5, by omega, by omega, rfl, (HIe.out.alloc _).far (Ne.symm HNP.out) _, below_setN (below_alloc' HBe.out _) HBP.out, keep_far (keep_alloc HKe.out _) (Nat.le_of_lt HW1.out) _, blk_far (blk_alloc HRe.out _) HNRP.out _, by rw [Het.out]; exact blk_put (blk_alloc HPe.out _) 1 _ rfl⟩
            case measure => simp [intOf]
          · have hl : ¬ m4.toList = [62, 62] := fun q => he ((opOf_iff m4).2.2.2.2.2 q)
            have hb1 : (([62, 62] : List UInt8) == m4.toList) = false := by rw [beq_eq_false_iff_ne]; exact fun q => hl q.symm
            have Het : Hid (opTo m4 5 = opTo m4 4) := opTo_miss m4 4 he
            clear hl he
            go_wp2_with fail
            go_roundw
            case rel => exact ⟨5, by omega, by omega, rfl, HIe.out.alloc _, below_alloc' HBe.out _, keep_alloc HKe.out _, blk_alloc HRe.out _, by rw [Het.out]; exact blk_alloc HPe.out _⟩
            case measure => simp [intOf]
        case inr.inr.inr.inr.inr =>
          have hd5 : decide ((5 : Int) < 5) = false := by decide
          obtain ⟨o4, Ho4⟩ : ∃ o, Hid (opOf m4 = o) := ⟨_, rfl⟩
          have HPf := Lib.hid (Ho4.out ▸ opTo_five m4 ▸ HPe.out)
          clear HPe
          have pc0 := blk_cell HPf.out 0
          have pc1 := blk_cell HPf.out 1
          have pc2 := blk_cell HPf.out 2
          simp only [List.getElem?_toArray, List.getElem?_cons_succ, List.getElem?_cons_zero] at pc0 pc1 pc2
          cases ho : decide (o4 = 0) with
          | true =>
            have ho1 := of_decide_eq_true ho
            have h := H.out
            rw [if_pos (Ho4.out.trans ho1)] at h
            simp only [Option.some.injEq, noRel, Prod.mk.injEq] at h
            obtain ⟨rfl, rfl, rfl, rfl, rfl, rfl⟩ := h
            have hob : (o4 == 0) = true := beq_iff_eq.2 ho1
            clear ho ho1 H
            have rc0 := blk_cell HRe.out 0
            have rc1 := blk_cell HRe.out 1
            have rc2 := blk_cell HRe.out 2
            have rz0 := blk_frozen HRe.out 0
            have rz1 := blk_frozen HRe.out 1
            have rz2 := blk_frozen HRe.out 2
            simp only [List.getElem?_toArray, List.getElem?_cons_succ, List.getElem?_cons_zero] at rc0 rc1 rc2
            go_wp2_with fail
            refine bodyPost_ret (results_ct rfl _ _ w.heap.size 23 #[.string ⟨#[]⟩, .int .i64 0, .string ⟨#[]⟩] (0, 0) _ rfl (blk_put (blk_put (blk_put HRe.out 0 _ rfl) 1 _ rfl) 2 _ rfl) Tryd.underlying23 rfl rfl) rfl ⟨rfl, (((HIe.out.far (Nat.ne_of_lt Hlt.out) _).far (Nat.ne_of_lt Hlt.out) _).far (Nat.ne_of_lt Hlt.out) _), below_setN (below_setN (below_setN HBe.out Hbw.out) Hbw.out) Hbw.out, keep_far (keep_far (keep_far HKe.out (Nat.le_refl _) _) (Nat.le_refl _) _) (Nat.le_refl _) _⟩
          | false =>
            have ho1 := of_decide_eq_false ho
            have h := H.out
            clear H
            rw [if_neg (fun q => ho1 (Ho4.out.symm.trans q))] at h
            have hob : (o4 == 0) = false := beq_eq_false_iff_ne.2 ho1
            clear ho ho1
            replace h := Option.bind_eq_some_iff.mp h
            obtain ⟨⟨s5, a5⟩, h6, h⟩ := h
            have H6 := Lib.hid h6; clear h6
            replace h := Option.bind_eq_some_iff.mp h
            obtain ⟨⟨v6, s6, a6⟩, h7, h⟩ := h
            have H7 := Lib.hid h7; clear h7
            have H := Lib.hid h; clear h
            go_wp2_with fail
            clear pc0 pc1 pc2 hob
            have HRf := HRe; have HIf := HIe; have HBf := HBe; have HKf := HKe
            refine (relation_reader_pass.calls _ _ _ _ _ _ _ w0 _ HIf.out HBf.out H6.out).mono ?_
            rintro e wh ⟨rfl, hI, hB, hK⟩
            have HIh := Lib.hid hI; have HBh := Lib.hid hB; have HKh := Lib.hid (KeepBut.trans HKf.out hK (.inl rfl))
            have HRh := Lib.hid (hK.blk HRf.out (Nat.ne_of_gt Hlt.out) (by simp))
            have HPh := Lib.hid (hK.blk HPf.out HNP.out (by simp))
            clear hI hB hK
            go_wp2_with fail
            refine (relation_reader_run.calls _ _ _ _ _ _ _ _ w0 _ HIh.out HBh.out H7.out).mono ?_
            rintro e wi ⟨rfl, hI, hB, hK⟩
            have HIi := Lib.hid hI; have HBi := Lib.hid hB; have HKi := Lib.hid (KeepBut.trans HKh.out hK (.inl rfl))
            have HRi := Lib.hid (hK.blk HRh.out (Nat.ne_of_gt Hlt.out) (by simp))
            have HPi := Lib.hid (hK.blk HPh.out HNP.out (by simp))
            clear hI hB hK
            by_cases e6 : v6.toList = []
            · have h := H.out
              rw [if_pos e6] at h
              simp only [Option.some.injEq, noRel, Prod.mk.injEq] at h
              obtain ⟨rfl, rfl, rfl, rfl, rfl, rfl⟩ := h
              have e6b : v6.toList.isEmpty = true := by rw [e6]; rfl
              have rc0 := blk_cell HRi.out 0
              have rc1 := blk_cell HRi.out 1
              have rc2 := blk_cell HRi.out 2
              have rz0 := blk_frozen HRi.out 0
              have rz1 := blk_frozen HRi.out 1
              have rz2 := blk_frozen HRi.out 2
              simp only [List.getElem?_toArray, List.getElem?_cons_succ, List.getElem?_cons_zero] at rc0 rc1 rc2
              go_wp2_with fail
              refine bodyPost_ret (results_ct rfl _ _ w.heap.size 23 #[.string ⟨#[]⟩, .int .i64 0, .string ⟨#[]⟩] (0, 0) _ rfl (blk_put (blk_put (blk_put HRi.out 0 _ rfl) 1 _ rfl) 2 _ rfl) Tryd.underlying23 rfl rfl) rfl ⟨rfl, (((HIi.out.far (Nat.ne_of_lt Hlt.out) _).far (Nat.ne_of_lt Hlt.out) _).far (Nat.ne_of_lt Hlt.out) _), below_setN (below_setN (below_setN HBi.out Hbw.out) Hbw.out) Hbw.out, keep_far (keep_far (keep_far HKi.out (Nat.le_refl _) _) (Nat.le_refl _) _) (Nat.le_refl _) _⟩
            have h := H.out
            clear H
            rw [if_neg e6] at h
            have e6b : v6.toList.isEmpty = false := by simpa using e6
            clear e6
            replace h := Option.bind_eq_some_iff.mp h
            obtain ⟨lg, h8, h⟩ := h
            have H8 := Lib.hid h8; clear h8
            have H := Lib.hid h; clear h
            go_wp2_with fail
            refine (version_Legal.calls _ _ _ _ H8.out).mono ?_
            rintro e wj ⟨rfl, hb⟩
            clear e6b
            have HIj := Lib.hid (HIi.out.below hb); have HBj := Lib.hid (below_then HBi.out HBi.out.size hb); have HKj := Lib.hid (KeepBut.trans HKi.out (KeepBut.of_below hb g none) (.inl rfl)); have HRj := Lib.hid (blk_below HRi.out hb); have HPj := Lib.hid (blk_below HPi.out hb)
            clear hb
            cases lg with
            | false =>
              have h := H.out
              rw [if_pos rfl] at h
              simp only [Option.some.injEq, noRel, Prod.mk.injEq] at h
              obtain ⟨rfl, rfl, rfl, rfl, rfl, rfl⟩ := h
              have rc0 := blk_cell HRj.out 0
              have rc1 := blk_cell HRj.out 1
              have rc2 := blk_cell HRj.out 2
              have rz0 := blk_frozen HRj.out 0
              have rz1 := blk_frozen HRj.out 1
              have rz2 := blk_frozen HRj.out 2
              simp only [List.getElem?_toArray, List.getElem?_cons_succ, List.getElem?_cons_zero] at rc0 rc1 rc2
              go_wp2_with fail
              refine bodyPost_ret (results_ct rfl _ _ w.heap.size 23 #[.string ⟨#[]⟩, .int .i64 0, .string ⟨#[]⟩] (0, 0) _ rfl (blk_put (blk_put (blk_put HRj.out 0 _ rfl) 1 _ rfl) 2 _ rfl) Tryd.underlying23 rfl rfl) rfl ⟨rfl, (((HIj.out.far (Nat.ne_of_lt Hlt.out) _).far (Nat.ne_of_lt Hlt.out) _).far (Nat.ne_of_lt Hlt.out) _), below_setN (below_setN (below_setN HBj.out Hbw.out) Hbw.out) Hbw.out, keep_far (keep_far (keep_far HKj.out (Nat.le_refl _) _) (Nat.le_refl _) _) (Nat.le_refl _) _⟩
            | true =>
              have h := H.out
              clear H
              rw [if_neg (by simp)] at h
              replace h := Option.bind_eq_some_iff.mp h
              obtain ⟨⟨s7, a7⟩, h9, h⟩ := h
              have H9 := Lib.hid h9; clear h9
              replace h := Option.bind_eq_some_iff.mp h
              obtain ⟨⟨b8, s8, a8⟩, h10, h⟩ := h
              have H10 := Lib.hid h10; clear h10
              have H := Lib.hid h; clear h
              have pc0 := blk_cell HPj.out 0
              have pc1 := blk_cell HPj.out 1
              have pc2 := blk_cell HPj.out 2
              have pz0 := blk_frozen HPj.out 0
              have pz1 := blk_frozen HPj.out 1
              have pz2 := blk_frozen HPj.out 2
              simp only [List.getElem?_toArray, List.getElem?_cons_succ, List.getElem?_cons_zero] at pc0 pc1 pc2
              go_wp2_with fail
              clear pc0 pc1 pc2 pz0 pz1 pz2
              have HIk := Lib.hid (HIj.out.far (Ne.symm HNP.out) (p := ⟨w2.heap.size, 2, none⟩) (.string v6)); have HBk := Lib.hid (below_setN (j := 2) (v := .string v6) HBj.out HBP.out); have HKk := Lib.hid (keep_far (p := ⟨w2.heap.size, 2, none⟩) HKj.out (Nat.le_of_lt HW1.out) (.string v6)); have HRk := Lib.hid (blk_far (p := ⟨w2.heap.size, 2, none⟩) HRj.out HNRP.out (.string v6)); have HPk : Hid ((wj.setCell ⟨w2.heap.size, 2, none⟩ (.string v6)).heap[w2.heap.size]? = some (.cells #[.string v1, .int .i64 o4, .string v6] 23 (0, 0))) := blk_put HPj.out 2 (.string v6) rfl
              refine (relation_reader_pass.calls _ _ _ _ _ _ _ w0 _ HIk.out HBk.out H9.out).mono ?_
              rintro e wl ⟨rfl, hI, hB, hK⟩
              have HIl := Lib.hid hI; have HBl := Lib.hid hB; have HKl := Lib.hid (KeepBut.trans HKk.out hK (.inl rfl))
              have HRl := Lib.hid (hK.blk HRk.out (Nat.ne_of_gt Hlt.out) (by simp))
              have HPl := Lib.hid (hK.blk HPk.out HNP.out (by simp))
              clear hI hB hK
              go_wp2_with fail
              refine (relation_reader_takes.calls _ _ _ _ _ _ _ _ w0 _ HIl.out HBl.out H10.out).mono ?_
              rintro e wm ⟨rfl, hI, hB, hK⟩
              have HIm := Lib.hid hI; have HBm := Lib.hid hB; have HKm := Lib.hid (KeepBut.trans HKl.out hK (.inl rfl))
              have HRm := Lib.hid (hK.blk HRl.out (Nat.ne_of_gt Hlt.out) (by simp))
              have HPm := Lib.hid (hK.blk HPl.out HNP.out (by simp))
              clear hI hB hK
              cases b8 with
              | false =>
                have h := H.out
                rw [if_pos rfl] at h
                simp only [Option.some.injEq, noRel, Prod.mk.injEq] at h
                obtain ⟨rfl, rfl, rfl, rfl, rfl, rfl⟩ := h
                have rc0 := blk_cell HRm.out 0
                have rc1 := blk_cell HRm.out 1
                have rc2 := blk_cell HRm.out 2
                have rz0 := blk_frozen HRm.out 0
                have rz1 := blk_frozen HRm.out 1
                have rz2 := blk_frozen HRm.out 2
                simp only [List.getElem?_toArray, List.getElem?_cons_succ, List.getElem?_cons_zero] at rc0 rc1 rc2
                go_wp2_with fail
                refine bodyPost_ret (results_ct rfl _ _ w.heap.size 23 #[.string ⟨#[]⟩, .int .i64 0, .string ⟨#[]⟩] (0, 0) _ rfl (blk_put (blk_put (blk_put HRm.out 0 _ rfl) 1 _ rfl) 2 _ rfl) Tryd.underlying23 rfl rfl) rfl ⟨rfl, (((HIm.out.far (Nat.ne_of_lt Hlt.out) _).far (Nat.ne_of_lt Hlt.out) _).far (Nat.ne_of_lt Hlt.out) _), below_setN (below_setN (below_setN HBm.out Hbw.out) Hbw.out) Hbw.out, keep_far (keep_far (keep_far HKm.out (Nat.le_refl _) _) (Nat.le_refl _) _) (Nat.le_refl _) _⟩
              | true =>
                have h := H.out
                rw [if_neg (by simp)] at h
                simp only [Option.some.injEq, Prod.mk.injEq] at h
                obtain ⟨rfl, rfl, rfl, rfl, rfl, rfl⟩ := h
                clear H
                have rc0 := blk_cell HRm.out 0
                have rc1 := blk_cell HRm.out 1
                have rc2 := blk_cell HRm.out 2
                have rz0 := blk_frozen HRm.out 0
                have rz1 := blk_frozen HRm.out 1
                have rz2 := blk_frozen HRm.out 2
                simp only [List.getElem?_toArray, List.getElem?_cons_succ, List.getElem?_cons_zero] at rc0 rc1 rc2
                have pc0 := blk_cell HPm.out 0
                have pc1 := blk_cell HPm.out 1
                have pc2 := blk_cell HPm.out 2
                simp only [List.getElem?_toArray, List.getElem?_cons_succ, List.getElem?_cons_zero] at pc0 pc1 pc2
                go_wp2_with fail
                refine bodyPost_ret (results_ct rfl _ _ w.heap.size 23 #[.string v1, .int .i64 o4, .string v6] (0, 0) _ rfl (blk_put (blk_put (blk_put HRm.out 0 _ rfl) 1 _ rfl) 2 _ rfl) Tryd.underlying23 rfl rfl) rfl ⟨by rw [Ho4.out]; rfl, (((HIm.out.far (Nat.ne_of_lt Hlt.out) _).far (Nat.ne_of_lt Hlt.out) _).far (Nat.ne_of_lt Hlt.out) _), below_setN (below_setN (below_setN HBm.out Hbw.out) Hbw.out) Hbw.out, keep_far (keep_far (keep_far HKm.out (Nat.le_refl _) _) (Nat.le_refl _) _) (Nat.le_refl _) _⟩


/-! ### relation_read: function 42 -/
mutual
def relation_read.l0 : Nat → ByteArray → Bool → List (List (S23)) → Bool → ByteArray → Int → Option ((List (List (S23))) × Int × Int)
  | 0, _, _, _, _, _, _ => none
  | k + 1, x0, x1, x8, x9, x122000, x122001 => if x9 = true then (relation_read.l1 k x0 x1 x8 ([] : List (S23)) true x122000 x122001) else (if x122001 < (x0.size : Int) then (some (([] : List (List (S23))), 220, x122001)) else (some (x8, 0, 0)))
def relation_read.l1 : Nat → ByteArray → Bool → List (List (S23)) → List (S23) → Bool → ByteArray → Int → Option ((List (List (S23))) × Int × Int)
  | 0, _, _, _, _, _, _, _ => none
  | k + 1, x0, x1, x8, x10, x11, x122000, x122001 => if x11 = true then ((relation_reader_relation.f k x122000 x122001).bind fun bt130 => (if bt130.2.2.2.1 = 0 then (if x10.length < 3518437208883 then ((some (x10 ++ [(⟨bt130.1, bt130.2.1, bt130.2.2.1⟩ : S23)] : List (S23))).bind fun y137 => (if x1 = true then ((relation_reader_takes.f k bt130.2.2.2.2.1 bt130.2.2.2.2.2 124).bind fun bt140 => (relation_read.l1 k x0 x1 x8 y137 bt140.1 bt140.2.1 bt140.2.2)) else (relation_read.l1 k x0 x1 x8 y137 false bt130.2.2.2.2.1 bt130.2.2.2.2.2))) else (none)) else (some (([] : List (List (S23))), bt130.2.2.2.1, bt130.2.2.2.2.2)))) else (if x8.length < 5864062014805 then ((relation_reader_takes.f k x122000 x122001 44).bind fun bt127 => (relation_read.l0 k x0 x1 (x8 ++ [x10]) bt127.1 bt127.2.1 bt127.2.2)) else (none))
end
def relation_read.f (k : Nat) (a0 : ByteArray) (a1 : Bool) : Option ((List (List (S23))) × Int × Int) := (relation_reader_gaps.f k a0 0).bind fun bt122 => (if bt122.2 = (a0.size : Int) then (some (([] : List (List (S23))), 0, 0)) else (relation_read.l0 k a0 a1 ([] : List (List (S23))) true bt122.1 bt122.2))
theorem relation_read.mono_l : ∀ k, (∀ y0 y1 y2 y3 y4 y5, LeO (relation_read.l0 k y0 y1 y2 y3 y4 y5) (relation_read.l0 (k + 1) y0 y1 y2 y3 y4 y5)) ∧ (∀ y0 y1 y2 y3 y4 y5 y6, LeO (relation_read.l1 k y0 y1 y2 y3 y4 y5 y6) (relation_read.l1 (k + 1) y0 y1 y2 y3 y4 y5 y6))
  | 0 => ⟨fun _ _ _ _ _ _ r h => by simp [relation_read.l0] at h, fun _ _ _ _ _ _ _ r h => by simp [relation_read.l1] at h⟩
  | k + 1 => by
    obtain ⟨ih0, ih1⟩ := relation_read.mono_l k
    refine ⟨?_, ?_⟩
    · intro y0 y1 y2 y3 y4 y5
      unfold relation_read.l0
      repeat' first
      | (with_reducible exact ih0 _ _ _ _ _ _)
      | (with_reducible exact ih1 _ _ _ _ _ _ _)
      | (with_reducible exact relation_reader_gaps.mono _ _ _)
      | (with_reducible exact relation_reader_relation.mono _ _ _)
      | (with_reducible exact relation_reader_takes.mono _ _ _ _)
      | (with_reducible exact LeO.refl _)
      | (with_reducible exact LeO.none _)
      | (with_reducible refine LeO.ite ?_ ?_)
      | (with_reducible refine LeO.bind ?_ (fun _ => ?_))
      | exact ih0 _ _ _ _ _ _
      | exact ih1 _ _ _ _ _ _ _
      | exact relation_reader_gaps.mono _ _ _
      | exact relation_reader_relation.mono _ _ _
      | exact relation_reader_takes.mono _ _ _ _
      | exact LeO.none _
      | refine LeO.ite ?_ ?_
      | refine LeO.bind ?_ (fun _ => ?_)
    · intro y0 y1 y2 y3 y4 y5 y6
      unfold relation_read.l1
      repeat' first
      | (with_reducible exact ih0 _ _ _ _ _ _)
      | (with_reducible exact ih1 _ _ _ _ _ _ _)
      | (with_reducible exact relation_reader_gaps.mono _ _ _)
      | (with_reducible exact relation_reader_relation.mono _ _ _)
      | (with_reducible exact relation_reader_takes.mono _ _ _ _)
      | (with_reducible exact LeO.refl _)
      | (with_reducible exact LeO.none _)
      | (with_reducible refine LeO.ite ?_ ?_)
      | (with_reducible refine LeO.bind ?_ (fun _ => ?_))
      | exact ih0 _ _ _ _ _ _
      | exact ih1 _ _ _ _ _ _ _
      | exact relation_reader_gaps.mono _ _ _
      | exact relation_reader_relation.mono _ _ _
      | exact relation_reader_takes.mono _ _ _ _
      | exact LeO.none _
      | refine LeO.ite ?_ ?_
      | refine LeO.bind ?_ (fun _ => ?_)
theorem relation_read.mono : ∀ a0 a1 k, LeO (relation_read.f k a0 a1) (relation_read.f (k + 1) a0 a1) := by
  intro a0 a1 k
  obtain ⟨ih0, ih1⟩ := relation_read.mono_l k
  unfold relation_read.f
  repeat' first
      | (with_reducible exact ih0 _ _ _ _ _ _)
      | (with_reducible exact ih1 _ _ _ _ _ _ _)
      | (with_reducible exact relation_reader_gaps.mono _ _ _)
      | (with_reducible exact relation_reader_relation.mono _ _ _)
      | (with_reducible exact relation_reader_takes.mono _ _ _ _)
      | (with_reducible exact LeO.refl _)
      | (with_reducible exact LeO.none _)
      | (with_reducible refine LeO.ite ?_ ?_)
      | (with_reducible refine LeO.bind ?_ (fun _ => ?_))
      | exact ih0 _ _ _ _ _ _
      | exact ih1 _ _ _ _ _ _ _
      | exact relation_reader_gaps.mono _ _ _
      | exact relation_reader_relation.mono _ _ _
      | exact relation_reader_takes.mono _ _ _ _
      | exact LeO.none _
      | refine LeO.ite ?_ ?_
      | refine LeO.bind ?_ (fun _ => ?_)
set_option maxHeartbeats 8000000 in
set_option maxRecDepth 100000 in
theorem relation_read.calls (k : Nat) (a0 : ByteArray) (a1 : Bool) (r1 : List (List (S23))) (r2 : Int) (r3 : Int) (w : World) (hG : GG w) (h : relation_read.f k a0 a1 = some (r1, r2, r3)) :
    Calls Tryd.prog 42 #[.string a0, .bool a1] w fun e w' => ∃ v0_ : Value, e = .returned (.tuple #[v0_, .int .i64 r2, .int .i64 r3]) ∧ Kd.S (Kd.slice 23 k23) 32 w' w.heap.size (fun _ => True) v0_ r1 ∧ Below w.heap.size w w' := by
  have hu76 := Tryd.underlying76
  have hu23 := Tryd.underlying23
  have HB := Aside0.mk (Below.refl w.heap.size w)
  have HG := Aside0.mk hG
  clear hG
  have H : ((relation_reader_gaps.f k a0 0).bind fun bt122 => (if bt122.2 = (a0.size : Int) then (some (([] : List (List (S23))), 0, 0)) else (relation_read.l0 k a0 a1 ([] : List (List (S23))) true bt122.1 bt122.2))) = some (r1, r2, r3) := h
  clear h
  replace H := Option.bind_eq_some_iff.mp H
  obtain ⟨⟨t122, t123⟩, A30, H⟩ := H
  replace H : (if t123 = (a0.size : Int) then (some (([] : List (List (S23))), 0, 0)) else (relation_read.l0 k a0 a1 ([] : List (List (S23))) true t122 t123)) = some (r1, r2, r3) := H
  have A3 := Aside0.mk A30
  clear A30
  by_cases c4 : t123 = (a0.size : Int)
  · rw [if_pos c4] at H
    have c4b0 : (t123 == (a0.size : Int)) = true := beq_iff_eq.mpr c4
    have c4b1 : (t123 != (a0.size : Int)) = false := bne_eq_false_iff_eq.mpr c4
    clear c4
    simp only [Option.some.injEq, Prod.mk.injEq] at H
    obtain ⟨rfl, rfl, rfl⟩ := H
    go_enter Tryd.func42, Tryd.ntmps42
    go_wp2_with (first | ((with_reducible refine gate_dst (N := 16) rfl ?_); refine box_event ?hg (N := 16) ?hd (cs := #[.string a0, .int .i64 0]) (t := 76) ?hr ?_; (case hd => rfl); (case hg => rfl); (case hr => first | (go_simp; done) | (go_simp; rfl)); intro gb121 hg w5 hbox hb; have n0_ := Aside0.mk (below_step (by repeat (first | (with_reducible first | exact HB.out | apply below_alloc | apply pw_below_drewN | apply below_drew1) | exact HB.out)) hb); have n1_ := Aside0.mk ((⟨hbox, (by rw [hg]; exact (below_size (by repeat (first | (with_reducible first | exact HB.out | apply below_alloc | apply pw_below_drewN | apply below_drew1) | exact HB.out))))⟩ : IsS76 w w5 gb121 a0 0)); clear HB; have HB := n0_; have HI121 := n1_; clear n0_ n1_; clear hb hbox hg) | (go_at_call 55; (with_reducible refine (relation_reader_gaps.calls k gb121 a0 0 t122 t123 w _ ?side1 ?side2 A3.out).mono ?_); (case side1 => repeat (first | (with_reducible first | exact HI121.out | apply IsS76.alloc | apply IsS76.drewN | apply IsS76.drew | apply IsS76.set_0 | apply IsS76.set_1) | exact HI121.out)); (case side2 => repeat (first | (with_reducible first | exact HB.out | apply below_alloc | apply pw_below_drewN | apply below_drew1 | refine below_set ?_ (IsS76.ge HI121.out)) | exact HB.out)); rintro e w6 ⟨rfl, hi, hb, hk⟩; have n0_ := Aside0.mk (hb); have n1_ := Aside0.mk (hi); clear HB; clear HI121; have HB := n0_; have HI121 := n1_; clear n0_ n1_; (try clear hb); (try clear hb2); (try clear hk); (try clear hi); obtain ⟨HGz7, hgz7⟩ := HI121.out; have hcz7_0 := cellS76_0 HGz7; have hcz7_1 := cellS76_1 HGz7; have hfz7_0 := blk_frozen HGz7 0; have hfz7_1 := blk_frozen HGz7 1; clear HGz7 hgz7))
    repeat (go_quiet (first | ((with_reducible refine gate_dst (N := 16) rfl ?_); refine box_event ?hg (N := 16) ?hd (cs := #[.string a0, .int .i64 0]) (t := 76) ?hr ?_; (case hd => rfl); (case hg => rfl); (case hr => first | (go_simp; done) | (go_simp; rfl)); intro gb121 hg w5 hbox hb; have n0_ := Aside0.mk (below_step (by repeat (first | (with_reducible first | exact HB.out | apply below_alloc | apply pw_below_drewN | apply below_drew1) | exact HB.out)) hb); have n1_ := Aside0.mk ((⟨hbox, (by rw [hg]; exact (below_size (by repeat (first | (with_reducible first | exact HB.out | apply below_alloc | apply pw_below_drewN | apply below_drew1) | exact HB.out))))⟩ : IsS76 w w5 gb121 a0 0)); clear HB; have HB := n0_; have HI121 := n1_; clear n0_ n1_; clear hb hbox hg) | (go_at_call 55; (with_reducible refine (relation_reader_gaps.calls k gb121 a0 0 t122 t123 w _ ?side1 ?side2 A3.out).mono ?_); (case side1 => repeat (first | (with_reducible first | exact HI121.out | apply IsS76.alloc | apply IsS76.drewN | apply IsS76.drew | apply IsS76.set_0 | apply IsS76.set_1) | exact HI121.out)); (case side2 => repeat (first | (with_reducible first | exact HB.out | apply below_alloc | apply pw_below_drewN | apply below_drew1 | refine below_set ?_ (IsS76.ge HI121.out)) | exact HB.out)); rintro e w6 ⟨rfl, hi, hb, hk⟩; have n0_ := Aside0.mk (hb); have n1_ := Aside0.mk (hi); clear HB; clear HI121; have HB := n0_; have HI121 := n1_; clear n0_ n1_; (try clear hb); (try clear hb2); (try clear hk); (try clear hi); obtain ⟨HGz7, hgz7⟩ := HI121.out; have hcz7_0 := cellS76_0 HGz7; have hcz7_1 := cellS76_1 HGz7; have hfz7_0 := blk_frozen HGz7 0; have hfz7_1 := blk_frozen HGz7 1; clear HGz7 hgz7)); try go_wp2_with (first | ((with_reducible refine gate_dst (N := 16) rfl ?_); refine box_event ?hg (N := 16) ?hd (cs := #[.string a0, .int .i64 0]) (t := 76) ?hr ?_; (case hd => rfl); (case hg => rfl); (case hr => first | (go_simp; done) | (go_simp; rfl)); intro gb121 hg w5 hbox hb; have n0_ := Aside0.mk (below_step (by repeat (first | (with_reducible first | exact HB.out | apply below_alloc | apply pw_below_drewN | apply below_drew1) | exact HB.out)) hb); have n1_ := Aside0.mk ((⟨hbox, (by rw [hg]; exact (below_size (by repeat (first | (with_reducible first | exact HB.out | apply below_alloc | apply pw_below_drewN | apply below_drew1) | exact HB.out))))⟩ : IsS76 w w5 gb121 a0 0)); clear HB; have HB := n0_; have HI121 := n1_; clear n0_ n1_; clear hb hbox hg) | (go_at_call 55; (with_reducible refine (relation_reader_gaps.calls k gb121 a0 0 t122 t123 w _ ?side1 ?side2 A3.out).mono ?_); (case side1 => repeat (first | (with_reducible first | exact HI121.out | apply IsS76.alloc | apply IsS76.drewN | apply IsS76.drew | apply IsS76.set_0 | apply IsS76.set_1) | exact HI121.out)); (case side2 => repeat (first | (with_reducible first | exact HB.out | apply below_alloc | apply pw_below_drewN | apply below_drew1 | refine below_set ?_ (IsS76.ge HI121.out)) | exact HB.out)); rintro e w6 ⟨rfl, hi, hb, hk⟩; have n0_ := Aside0.mk (hb); have n1_ := Aside0.mk (hi); clear HB; clear HI121; have HB := n0_; have HI121 := n1_; clear n0_ n1_; (try clear hb); (try clear hb2); (try clear hk); (try clear hi); obtain ⟨HGz7, hgz7⟩ := HI121.out; have hcz7_0 := cellS76_0 HGz7; have hcz7_1 := cellS76_1 HGz7; have hfz7_0 := blk_frozen HGz7 0; have hfz7_1 := blk_frozen HGz7 1; clear HGz7 hgz7)))
    go_ret3
    exact ⟨_, by first | rfl | (simp [errW_none, errW_some] <;> rfl) | (simp [*, errW_none, errW_some] <;> rfl) | (simp [errW_none, errW_some, Go.Proofs.YtphabealejpfnaaDoor.listNe]; done), by first | exact Kd.S_nil _ _ _ _ _ | exact Kd.N_nil _ _ _ _ _ | exact Kd.V_nil _ _ _ _ _ | exact Kd.Q_nil _ _ _ _ _ | exact Kd.R_nil _ _ _ _ _, by repeat (first | (with_reducible first | exact HB.out | apply below_alloc | apply pw_below_drewN | apply below_drew1 | refine below_set ?_ (IsS76.ge HI121.out)) | exact HB.out)⟩
  · rw [if_neg c4] at H
    have c4b0 : (t123 == (a0.size : Int)) = false := beq_eq_false_iff_ne.mpr c4
    have c4b1 : (t123 != (a0.size : Int)) = true := bne_iff_ne.mpr c4
    have H' := Aside0.mk H
    clear H
    go_enter Tryd.func42, Tryd.ntmps42
    go_wp2_with (first | ((with_reducible refine gate_dst (N := 16) rfl ?_); refine box_event ?hg (N := 16) ?hd (cs := #[.string a0, .int .i64 0]) (t := 76) ?hr ?_; (case hd => rfl); (case hg => rfl); (case hr => first | (go_simp; done) | (go_simp; rfl)); intro gb121 hg w8 hbox hb; have n0_ := Aside0.mk (below_step (by repeat (first | (with_reducible first | exact HB.out | apply below_alloc | apply pw_below_drewN | apply below_drew1) | exact HB.out)) hb); have n1_ := Aside0.mk ((⟨hbox, (by rw [hg]; exact (below_size (by repeat (first | (with_reducible first | exact HB.out | apply below_alloc | apply pw_below_drewN | apply below_drew1) | exact HB.out))))⟩ : IsS76 w w8 gb121 a0 0)); clear HB; have HB := n0_; have HI121 := n1_; clear n0_ n1_; clear hb hbox hg) | (go_at_call 55; (with_reducible refine (relation_reader_gaps.calls k gb121 a0 0 t122 t123 w _ ?side1 ?side2 A3.out).mono ?_); (case side1 => repeat (first | (with_reducible first | exact HI121.out | apply IsS76.alloc | apply IsS76.drewN | apply IsS76.drew | apply IsS76.set_0 | apply IsS76.set_1) | exact HI121.out)); (case side2 => repeat (first | (with_reducible first | exact HB.out | apply below_alloc | apply pw_below_drewN | apply below_drew1 | refine below_set ?_ (IsS76.ge HI121.out)) | exact HB.out)); rintro e w9 ⟨rfl, hi, hb, hk⟩; have n0_ := Aside0.mk (hb); have n1_ := Aside0.mk (hi); clear HB; clear HI121; have HB := n0_; have HI121 := n1_; clear n0_ n1_; (try clear hb); (try clear hb2); (try clear hk); (try clear hi); obtain ⟨HGz10, hgz10⟩ := HI121.out; have hcz10_0 := cellS76_0 HGz10; have hcz10_1 := cellS76_1 HGz10; have hfz10_0 := blk_frozen HGz10 0; have hfz10_1 := blk_frozen HGz10 1; clear HGz10 hgz10))
    repeat (go_quiet (first | ((with_reducible refine gate_dst (N := 16) rfl ?_); refine box_event ?hg (N := 16) ?hd (cs := #[.string a0, .int .i64 0]) (t := 76) ?hr ?_; (case hd => rfl); (case hg => rfl); (case hr => first | (go_simp; done) | (go_simp; rfl)); intro gb121 hg w8 hbox hb; have n0_ := Aside0.mk (below_step (by repeat (first | (with_reducible first | exact HB.out | apply below_alloc | apply pw_below_drewN | apply below_drew1) | exact HB.out)) hb); have n1_ := Aside0.mk ((⟨hbox, (by rw [hg]; exact (below_size (by repeat (first | (with_reducible first | exact HB.out | apply below_alloc | apply pw_below_drewN | apply below_drew1) | exact HB.out))))⟩ : IsS76 w w8 gb121 a0 0)); clear HB; have HB := n0_; have HI121 := n1_; clear n0_ n1_; clear hb hbox hg) | (go_at_call 55; (with_reducible refine (relation_reader_gaps.calls k gb121 a0 0 t122 t123 w _ ?side1 ?side2 A3.out).mono ?_); (case side1 => repeat (first | (with_reducible first | exact HI121.out | apply IsS76.alloc | apply IsS76.drewN | apply IsS76.drew | apply IsS76.set_0 | apply IsS76.set_1) | exact HI121.out)); (case side2 => repeat (first | (with_reducible first | exact HB.out | apply below_alloc | apply pw_below_drewN | apply below_drew1 | refine below_set ?_ (IsS76.ge HI121.out)) | exact HB.out)); rintro e w9 ⟨rfl, hi, hb, hk⟩; have n0_ := Aside0.mk (hb); have n1_ := Aside0.mk (hi); clear HB; clear HI121; have HB := n0_; have HI121 := n1_; clear n0_ n1_; (try clear hb); (try clear hb2); (try clear hk); (try clear hi); obtain ⟨HGz10, hgz10⟩ := HI121.out; have hcz10_0 := cellS76_0 HGz10; have hcz10_1 := cellS76_1 HGz10; have hfz10_0 := blk_frozen HGz10 0; have hfz10_1 := blk_frozen HGz10 1; clear HGz10 hgz10)); try go_wp2_with (first | ((with_reducible refine gate_dst (N := 16) rfl ?_); refine box_event ?hg (N := 16) ?hd (cs := #[.string a0, .int .i64 0]) (t := 76) ?hr ?_; (case hd => rfl); (case hg => rfl); (case hr => first | (go_simp; done) | (go_simp; rfl)); intro gb121 hg w8 hbox hb; have n0_ := Aside0.mk (below_step (by repeat (first | (with_reducible first | exact HB.out | apply below_alloc | apply pw_below_drewN | apply below_drew1) | exact HB.out)) hb); have n1_ := Aside0.mk ((⟨hbox, (by rw [hg]; exact (below_size (by repeat (first | (with_reducible first | exact HB.out | apply below_alloc | apply pw_below_drewN | apply below_drew1) | exact HB.out))))⟩ : IsS76 w w8 gb121 a0 0)); clear HB; have HB := n0_; have HI121 := n1_; clear n0_ n1_; clear hb hbox hg) | (go_at_call 55; (with_reducible refine (relation_reader_gaps.calls k gb121 a0 0 t122 t123 w _ ?side1 ?side2 A3.out).mono ?_); (case side1 => repeat (first | (with_reducible first | exact HI121.out | apply IsS76.alloc | apply IsS76.drewN | apply IsS76.drew | apply IsS76.set_0 | apply IsS76.set_1) | exact HI121.out)); (case side2 => repeat (first | (with_reducible first | exact HB.out | apply below_alloc | apply pw_below_drewN | apply below_drew1 | refine below_set ?_ (IsS76.ge HI121.out)) | exact HB.out)); rintro e w9 ⟨rfl, hi, hb, hk⟩; have n0_ := Aside0.mk (hb); have n1_ := Aside0.mk (hi); clear HB; clear HI121; have HB := n0_; have HI121 := n1_; clear n0_ n1_; (try clear hb); (try clear hb2); (try clear hk); (try clear hi); obtain ⟨HGz10, hgz10⟩ := HI121.out; have hcz10_0 := cellS76_0 HGz10; have hcz10_1 := cellS76_1 HGz10; have hfz10_0 := blk_frozen HGz10 0; have hfz10_1 := blk_frozen HGz10 1; clear HGz10 hgz10)))
    go_loopg [8, 9] k (fun kq v8 v9 w' => ∃ (x8_1 : List (List (S23))) (x9_1 : Bool) (x122000_1 : ByteArray) (x122001_1 : Int), v9 = .bool x9_1 ∧ Aside0 (relation_read.l0 kq a0 a1 x8_1 x9_1 x122000_1 x122001_1 = some (r1, r2, r3)) ∧ Aside0 (kq ≤ k) ∧ Aside0 (Kd.S (Kd.slice 23 k23) 32 w' w.heap.size (fun _ => True) v8 x8_1) ∧ Aside0 (IsS76 w w' gb121 x122000_1 x122001_1) ∧ Aside0 (Below w.heap.size w w'))
    case atStart => exact ⟨(([] : List (List (S23)))), (true), (t122), (t123), (by first | rfl | (simp; done) | (simp [*]; done)), H', ⟨Nat.le_refl _⟩, ⟨by first | exact Kd.S_nil _ _ _ _ _ | exact Kd.N_nil _ _ _ _ _ | exact Kd.V_nil _ _ _ _ _ | exact Kd.Q_nil _ _ _ _ _ | exact Kd.R_nil _ _ _ _ _⟩, ⟨by repeat (first | (with_reducible first | exact HI121.out | apply IsS76.alloc | apply IsS76.drewN | apply IsS76.drew | apply IsS76.set_0 | apply IsS76.set_1) | exact HI121.out)⟩, ⟨by repeat (first | (with_reducible first | exact HB.out | apply below_alloc | apply pw_below_drewN | apply below_drew1 | refine below_set ?_ (IsS76.ge HI121.out)) | exact HB.out)⟩⟩
    case round =>
      clear H'
      try clear p2
      try clear c4
      try clear c4b0
      try clear c4b1
      try clear hcz10_0
      try clear hcz10_1
      try clear hcz7_0
      try clear hcz7_1
      try clear hfz10_0
      try clear hfz10_1
      try clear hfz7_0
      try clear hfz7_1
      obtain ⟨x8_1, x9_1, x122000_1, x122001_1, rfl, HA, HK1, HO_8, HI121, HB⟩ := hrel
      cases gk with
      | zero => exact absurd HA.out (by simp [relation_read.l0])
      | succ k1 =>
        have H := HA.out
        clear HA
        simp only [relation_read.l0] at H
        by_cases c11 : x9_1 = true
        · subst c11
          have H1 : (relation_read.l1 k1 a0 a1 x8_1 ([] : List (S23)) true x122000_1 x122001_1) = some (r1, r2, r3) := by rw [if_pos rfl] at H; exact H
          clear H
          have H := H1
          clear H1
          have H' := Aside0.mk H
          clear H
          go_wp2
          repeat (go_quiet (fail); try go_wp2)
          go_loopg [10, 11] k1 (fun kq v10 v11 w' => ∃ (x10_2 : List (S23)) (x11_2 : Bool) (x122000_2 : ByteArray) (x122001_2 : Int), v11 = .bool x11_2 ∧ Aside0 (relation_read.l1 kq a0 a1 x8_1 x10_2 x11_2 x122000_2 x122001_2 = some (r1, r2, r3)) ∧ Aside0 (kq ≤ k1) ∧ Aside0 (Kd.S (Kd.slice 23 k23) 32 w' w.heap.size (fun k_ => some k_ ≠ (v10 : Value).ownBlock) u8 x8_1) ∧ Aside0 (Kd.R k23 23 w' w.heap.size (fun _ => True) v10 x10_2) ∧ Aside0 (IsS76 w w' gb121 x122000_2 x122001_2) ∧ Aside0 (Below w.heap.size w w'))
          case atStart => exact ⟨(([] : List (S23))), (true), (x122000_1), (x122001_1), (by first | rfl | (simp; done) | (simp [*]; done)), H', ⟨Nat.le_refl _⟩, ⟨by (with_reducible repeat (first | apply Kd.S_alloc | apply Kd.S_drewN | apply Kd.S_drew)); exact Kd.S_mono HO_8.out (fun _ hk => (by simp [Value.ownBlock]))⟩, ⟨by first | exact Kd.R_nil _ _ _ _ _ | exact Kd.N_nil _ _ _ _ _ | exact Kd.V_nil _ _ _ _ _ | exact Kd.Q_nil _ _ _ _ _ | exact Kd.S_nil _ _ _ _ _⟩, ⟨by repeat (first | (with_reducible first | exact HI121.out | apply IsS76.alloc | apply IsS76.drewN | apply IsS76.drew | apply IsS76.set_0 | apply IsS76.set_1) | exact HI121.out)⟩, ⟨by repeat (first | (with_reducible first | exact HB.out | apply below_alloc | apply pw_below_drewN | apply below_drew1 | refine below_set ?_ (IsS76.ge HI121.out)) | exact HB.out)⟩⟩
          case round =>
            clear H'
            try clear c1
            try clear p2
            try clear c4
            try clear c4b0
            try clear c4b1
            try clear c11
            try clear hcz10_0
            try clear hcz10_1
            try clear hcz7_0
            try clear hcz7_1
            try clear hfz10_0
            try clear hfz10_1
            try clear hfz7_0
            try clear hfz7_1
            try clear p2
            obtain ⟨x10_2, x11_2, x122000_2, x122001_2, rfl, HA, HK2, HO_8, HO_10, HI121, HB⟩ := hrel
            cases gk with
            | zero => exact absurd HA.out (by simp [relation_read.l1])
            | succ k2 =>
              have H := HA.out
              clear HA
              simp only [relation_read.l1] at H
              by_cases c12 : x11_2 = true
              · subst c12
                have H1 : ((relation_reader_relation.f k2 x122000_2 x122001_2).bind fun bt130 => (if bt130.2.2.2.1 = 0 then (if x10_2.length < 3518437208883 then ((some (x10_2 ++ [(⟨bt130.1, bt130.2.1, bt130.2.2.1⟩ : S23)] : List (S23))).bind fun y137 => (if a1 = true then ((relation_reader_takes.f k2 bt130.2.2.2.2.1 bt130.2.2.2.2.2 124).bind fun bt140 => (relation_read.l1 k2 a0 a1 x8_1 y137 bt140.1 bt140.2.1 bt140.2.2)) else (relation_read.l1 k2 a0 a1 x8_1 y137 false bt130.2.2.2.2.1 bt130.2.2.2.2.2))) else (none)) else (some (([] : List (List (S23))), bt130.2.2.2.1, bt130.2.2.2.2.2)))) = some (r1, r2, r3) := by rw [if_pos rfl] at H; exact H
                clear H
                have H := H1
                clear H1
                replace H := Option.bind_eq_some_iff.mp H
                obtain ⟨⟨t130, t131, t132, t133, t134, t135⟩, A130, H⟩ := H
                replace H : (if t133 = 0 then (if x10_2.length < 3518437208883 then ((some (x10_2 ++ [(⟨t130, t131, t132⟩ : S23)] : List (S23))).bind fun y137 => (if a1 = true then ((relation_reader_takes.f k2 t134 t135 124).bind fun bt140 => (relation_read.l1 k2 a0 a1 x8_1 y137 bt140.1 bt140.2.1 bt140.2.2)) else (relation_read.l1 k2 a0 a1 x8_1 y137 false t134 t135))) else (none)) else (some (([] : List (List (S23))), t133, t135))) = some (r1, r2, r3) := H
                have A13 := Aside0.mk A130
                clear A130
                by_cases c14 : t133 = 0
                · rw [if_pos c14] at H
                  have c14b0 : (t133 == 0) = true := beq_iff_eq.mpr c14
                  have c14b1 : (t133 != 0) = false := bne_eq_false_iff_eq.mpr c14
                  clear c14
                  by_cases c15 : x10_2.length < 3518437208883
                  · rw [if_pos c15] at H
                    have LMc15 := Aside0.mk c15
                    clear c15
                    obtain ⟨y137, hy137⟩ : ∃ y_ : List (S23), y_ = (x10_2 ++ [(⟨t130, t131, t132⟩ : S23)]) := ⟨_, rfl⟩
                    replace H : (if a1 = true then ((relation_reader_takes.f k2 t134 t135 124).bind fun bt140 => (relation_read.l1 k2 a0 a1 x8_1 y137 bt140.1 bt140.2.1 bt140.2.2)) else (relation_read.l1 k2 a0 a1 x8_1 y137 false t134 t135)) = some (r1, r2, r3) := by first | (rw [hy137]; with_reducible exact H) | (have H2_ := (Option.bind_some _ _).symm.trans H; rw [hy137]; with_reducible exact H2_) | (have H2_ := (Option.bind_some _ _).symm.trans H; with_reducible exact H2_) | with_reducible exact H | (rw [hy137]; exact H) | exact H
                    have Ny137 := Aside0.mk hy137
                    clear hy137
                    by_cases c16 : a1 = true
                    · subst c16
                      have H1 : ((relation_reader_takes.f k2 t134 t135 124).bind fun bt140 => (relation_read.l1 k2 a0 true x8_1 y137 bt140.1 bt140.2.1 bt140.2.2)) = some (r1, r2, r3) := by rw [if_pos rfl] at H; exact H
                      clear H
                      have H := H1
                      clear H1
                      replace H := Option.bind_eq_some_iff.mp H
                      obtain ⟨⟨t140, t141, t142⟩, A170, H⟩ := H
                      replace H : (relation_read.l1 k2 a0 true x8_1 y137 t140 t141 t142) = some (r1, r2, r3) := H
                      have A17 := Aside0.mk A170
                      clear A170
                      have H' := Aside0.mk H
                      clear H
                      go_wp2_with (first | (go_at_call 56; (with_reducible refine (relation_reader_relation.calls k2 gb121 x122000_2 x122001_2 t130 t131 t132 t133 t134 t135 w _ ?side1 ?side2 ?side3 A13.out).mono ?_); (case side1 => repeat (first | (with_reducible first | exact HI121.out | apply IsS76.alloc | apply IsS76.drewN | apply IsS76.drew | apply IsS76.set_0 | apply IsS76.set_1) | exact HI121.out)); (case side2 => repeat (first | (with_reducible first | exact HB.out | apply below_alloc | apply pw_below_drewN | apply below_drew1 | refine below_set ?_ (IsS76.ge HI121.out)) | exact HB.out)); (case side3 => exact HG.out); rintro e w18 ⟨rfl, hi, hb, hk⟩; have n0_ := Aside0.mk (Kd.S_mono (Kd.S_keep (IsS76.apartS (show IsS76 w _ gb121 x122000_2 x122001_2 from by repeat (first | (with_reducible first | exact HI121.out | apply IsS76.alloc | apply IsS76.drewN | apply IsS76.drew | apply IsS76.set_0 | apply IsS76.set_1) | exact HI121.out)) (by (with_reducible repeat (first | apply Kd.S_alloc | apply Kd.S_drewN | apply Kd.S_drew)); exact HO_8.out) (by decide)) hk (fun _ h => h.2)) (fun _ h => h.1)); have n1_ := Aside0.mk (Kd.R_mono (Kd.R_keep (IsS76.apart (show IsS76 w _ gb121 x122000_2 x122001_2 from by repeat (first | (with_reducible first | exact HI121.out | apply IsS76.alloc | apply IsS76.drewN | apply IsS76.drew | apply IsS76.set_0 | apply IsS76.set_1) | exact HI121.out)) (by (with_reducible repeat (first | apply Kd.R_alloc | apply Kd.R_drewN | apply Kd.R_drew)); exact HO_10.out) (by decide)) hk (fun _ h => h.2)) (fun _ h => h.1)); have n2_ := Aside0.mk (hb); have n3_ := Aside0.mk (hi); clear HO_8; clear HO_10; clear HB; clear HI121; have HO_8 := n0_; have HO_10 := n1_; have HB := n2_; have HI121 := n3_; clear n0_ n1_ n2_ n3_; (try clear hb); (try clear hb2); (try clear hk); (try clear hi)) | ((with_reducible refine gate_dst (N := 12) rfl ?_); refine box_event ?hg (N := 12) ?hd (cs := #[.string (⟨#[]⟩ : ByteArray), .int .i64 0, .string (⟨#[]⟩ : ByteArray)]) (t := 23) ?hr ?_; (case hd => rfl); (case hg => rfl); (case hr => first | (go_simp; done) | (go_simp; rfl)); intro gb136 hg w19 hbox hb; have n0_ := Aside0.mk (Kd.S_below (Kd.S_elderB (by (with_reducible repeat (first | apply Kd.S_alloc | apply Kd.S_drewN | apply Kd.S_drew)); exact HO_8.out) gb136 (Nat.le_of_eq hg.symm)) hb); have n1_ := Aside0.mk (Kd.R_below (Kd.R_elderB (by (with_reducible repeat (first | apply Kd.R_alloc | apply Kd.R_drewN | apply Kd.R_drew)); exact HO_10.out) gb136 (Nat.le_of_eq hg.symm)) hb); have n2_ := Aside0.mk (IsS76.below (by repeat (first | (with_reducible first | exact HI121.out | apply IsS76.alloc | apply IsS76.drewN | apply IsS76.drew | apply IsS76.set_0 | apply IsS76.set_1) | exact HI121.out)) hb); have n3_ := Aside0.mk (below_step (by repeat (first | (with_reducible first | exact HB.out | apply below_alloc | apply pw_below_drewN | apply below_drew1 | refine below_set ?_ (IsS76.ge HI121.out)) | exact HB.out)) hb); have n4_ := Aside0.mk (hbox); have n5_ := Aside0.mk ((by rw [hg]; exact (below_size (by repeat (first | (with_reducible first | exact HB.out | apply below_alloc | apply pw_below_drewN | apply below_drew1 | refine below_set ?_ (IsS76.ge HI121.out)) | exact HB.out))) : w.heap.size ≤ gb136)); have n6_ := Aside0.mk ((by rw [hg]; exact (below_size (by repeat (first | (with_reducible first | exact HB.out | apply below_alloc | apply pw_below_drewN | apply below_drew1 | refine below_set ?_ (IsS76.ge HI121.out)) | exact HB.out))) : w.heap.size ≤ gb136)); have n7_ := Aside0.mk ((by rw [hg]; exact Nat.ne_of_lt (IsS76.lt (show IsS76 w _ gb121 t134 t135 from by repeat (first | (with_reducible first | exact HI121.out | apply IsS76.alloc | apply IsS76.drewN | apply IsS76.drew | apply IsS76.set_0 | apply IsS76.set_1) | exact HI121.out))) : gb121 ≠ gb136)); have n8_ := Aside0.mk ((by rw [hg]; exact Nat.ne_of_gt (IsS76.lt (show IsS76 w _ gb121 t134 t135 from by repeat (first | (with_reducible first | exact HI121.out | apply IsS76.alloc | apply IsS76.drewN | apply IsS76.drew | apply IsS76.set_0 | apply IsS76.set_1) | exact HI121.out))) : gb136 ≠ gb121)); clear HO_8; clear HO_10; clear HI121; clear HB; have HO_8 := n0_; have HO_10 := n1_; have HI121 := n2_; have HB := n3_; have BK136 := n4_; have GW136 := n5_; have GE136 := n6_; have NB121_136 := n7_; have NB136_121 := n8_; clear n0_ n1_ n2_ n3_ n4_ n5_ n6_ n7_ n8_; clear hb hbox hg; have hnb20 := NB136_121.out; have hnc20 := NB121_136.out; have hcz21_0 : w19.cell? ⟨gb136, 0, none⟩ = some (.string (⟨#[]⟩ : ByteArray)) := (blk_cell BK136.out 0).trans rfl; have hcz21_1 : w19.cell? ⟨gb136, 1, none⟩ = some (.int .i64 0) := (blk_cell BK136.out 1).trans rfl; have hcz21_2 : w19.cell? ⟨gb136, 2, none⟩ = some (.string (⟨#[]⟩ : ByteArray)) := (blk_cell BK136.out 2).trans rfl; have hfz21_0 := blk_frozen BK136.out 0; have hfz21_1 := blk_frozen BK136.out 1; have hfz21_2 := blk_frozen BK136.out 2) | ((with_reducible refine gate_builtin (b := .append) (xs := #[.tmp 40, .tmp 42]) rfl ?_); at_builtin; refine Kd.R_append k23 (w0 := w) w.heap.size rfl (.tmp 40) (.tmp 42) 32 23 (.agg #[(.string ⟨#[]⟩), (.int .i64 0), (.string ⟨#[]⟩)]) 40 rfl Tryd.underlying32 info23 rfl (by decide) (by omega) u10 x10_2 (⟨t130, t131, t132⟩ : S23) [.string t130, .int .i64 t131, .string t132] (fun k_ => k_ ≠ gb136) (fun _ => False) rfl (by first | (go_simp; done) | (go_simp; rfl)) ?aP (fun _ hk => hk.elim) ?aF ?aO ?aB ?aS ?aL ?_; (case aP => exact k23_mkM _ _ _ (⟨t130, t131, t132⟩ : S23)); (case aB => exact (by repeat (first | (with_reducible first | exact HB.out | apply below_alloc | apply pw_below_drewN | apply below_drew1 | refine below_set ?_ (IsS76.ge HI121.out) | refine below_set ?_ GE136.out) | exact HB.out))); (case aF => exact (fun k_ hk => Kd.freshB (g := gb136) (o := .cells #[.string t130, .int .i64 t131, .string t132] 23 (0, 0)) (by (with_reducible repeat (first | refine blk_drewN ?_ _ | refine blk_drew ?_ | refine blk_alloc ?_ _)); refine blk_put (cs := #[.string t130, .int .i64 t131, .string (⟨#[]⟩ : ByteArray)]) ?_ 2 _ rfl; (with_reducible repeat (first | refine blk_drewN ?_ _ | refine blk_drew ?_ | refine blk_alloc ?_ _)); refine blk_put (cs := #[.string t130, .int .i64 0, .string (⟨#[]⟩ : ByteArray)]) ?_ 1 _ rfl; (with_reducible repeat (first | refine blk_drewN ?_ _ | refine blk_drew ?_ | refine blk_alloc ?_ _)); refine blk_put (cs := #[.string (⟨#[]⟩ : ByteArray), .int .i64 0, .string (⟨#[]⟩ : ByteArray)]) ?_ 0 _ rfl; (with_reducible repeat (first | refine blk_drewN ?_ _ | refine blk_drew ?_ | refine blk_alloc ?_ _)); exact BK136.out) k_ hk)); (case aO => exact (by (with_reducible repeat (first | apply Kd.R_alloc | apply Kd.R_drewN | apply Kd.R_drew)); exact Kd.R_mono (Kd.R_far (p := ⟨gb136, 2, none⟩) (Kd.R_far (p := ⟨gb136, 1, none⟩) (Kd.R_far (p := ⟨gb136, 0, none⟩) (Kd.R_mono HO_10.out (fun k_ hk => (⟨hk, hk.2⟩ : _ ∧ k_ ≠ gb136))) (fun _ hk => hk.2) (.string t130)) (fun _ hk => hk.2) (.int .i64 t131)) (fun _ hk => hk.2) (.string t132)) (fun _ hk => hk.1.2))); (case aS => exact (below_size (by repeat (first | (with_reducible first | exact HB.out | apply below_alloc | apply pw_below_drewN | apply below_drew1 | refine below_set ?_ (IsS76.ge HI121.out) | refine below_set ?_ GE136.out) | exact HB.out)))); (case aL => have := LMc15.out; omega); intro v138 w22 ho hb hg hat; rw [← Ny137.out] at ho; have n0_ := Aside0.mk (Kd.S_after (ok := (fun k_ => k_ ≠ gb136)) (by (with_reducible repeat (first | apply Kd.S_alloc | apply Kd.S_drewN | apply Kd.S_drew)); exact Kd.S_mono (Kd.S_far (p := ⟨gb136, 2, none⟩) (Kd.S_far (p := ⟨gb136, 1, none⟩) (Kd.S_far (p := ⟨gb136, 0, none⟩) (Kd.S_mono HO_8.out (fun k_ hk => (⟨hk, hk.2⟩ : _ ∧ k_ ≠ gb136))) (fun _ hk => hk.2) (.string t130)) (fun _ hk => hk.2) (.int .i64 t131)) (fun _ hk => hk.2) (.string t132)) (fun _ hk => ⟨hk.1.2, hk.1.1⟩)) hg hat); have n1_ := Aside0.mk (IsS76.grown (show IsS76 w _ gb121 t134 t135 from by repeat (first | (with_reducible first | exact HI121.out | apply IsS76.alloc | apply IsS76.drewN | apply IsS76.drew | apply IsS76.set_0 | apply IsS76.set_1 | refine IsS76.far ?_ NB121_136.out _) | exact HI121.out)) hg (IsS76.own_ne HI121.out HO_10.out (by decide))); have n2_ := Aside0.mk (blk_grown (g := gb136) (o := .cells #[.string t130, .int .i64 t131, .string t132] 23 (0, 0)) (by (with_reducible repeat (first | refine blk_drewN ?_ _ | refine blk_drew ?_ | refine blk_alloc ?_ _)); refine blk_put (cs := #[.string t130, .int .i64 t131, .string (⟨#[]⟩ : ByteArray)]) ?_ 2 _ rfl; (with_reducible repeat (first | refine blk_drewN ?_ _ | refine blk_drew ?_ | refine blk_alloc ?_ _)); refine blk_put (cs := #[.string t130, .int .i64 0, .string (⟨#[]⟩ : ByteArray)]) ?_ 1 _ rfl; (with_reducible repeat (first | refine blk_drewN ?_ _ | refine blk_drew ?_ | refine blk_alloc ?_ _)); refine blk_put (cs := #[.string (⟨#[]⟩ : ByteArray), .int .i64 0, .string (⟨#[]⟩ : ByteArray)]) ?_ 0 _ rfl; (with_reducible repeat (first | refine blk_drewN ?_ _ | refine blk_drew ?_ | refine blk_alloc ?_ _)); exact BK136.out) hg (Kd.R_away HO_10.out (fun _ hk => hk.2))); have n3_ := Aside0.mk (hb); have n4_ := Aside0.mk (ho); clear HO_8; clear HI121; clear BK136; clear HB; clear HO_10; have HO_8 := n0_; have HI121 := n1_; have BK136 := n2_; have HB := n3_; have HO139 := n4_; clear n0_ n1_ n2_ n3_ n4_; clear ho hb hg hat) | (go_at_call 57; (with_reducible refine (relation_reader_takes.calls k2 gb121 t134 t135 124 t140 t141 t142 w _ ?side1 ?side2 A17.out).mono ?_); (case side1 => repeat (first | (with_reducible first | exact HI121.out | apply IsS76.alloc | apply IsS76.drewN | apply IsS76.drew | apply IsS76.set_0 | apply IsS76.set_1 | refine IsS76.far ?_ NB121_136.out _) | exact HI121.out)); (case side2 => repeat (first | (with_reducible first | exact HB.out | apply below_alloc | apply pw_below_drewN | apply below_drew1 | refine below_set ?_ (IsS76.ge HI121.out) | refine below_set ?_ GE136.out) | exact HB.out)); rintro e w23 ⟨rfl, hi, hb, hk⟩; have n0_ := Aside0.mk (Kd.S_mono (Kd.S_keep (IsS76.apartS (show IsS76 w _ gb121 t134 t135 from by repeat (first | (with_reducible first | exact HI121.out | apply IsS76.alloc | apply IsS76.drewN | apply IsS76.drew | apply IsS76.set_0 | apply IsS76.set_1 | refine IsS76.far ?_ NB121_136.out _) | exact HI121.out)) (by (with_reducible repeat (first | apply Kd.S_alloc | apply Kd.S_drewN | apply Kd.S_drew)); exact HO_8.out) (by decide)) hk (fun _ h => h.2)) (fun _ h => h.1)); have n1_ := Aside0.mk (KeepBut.blk hk (g' := gb136) (o := .cells #[.string t130, .int .i64 t131, .string t132] 23 (0, 0)) (by (with_reducible repeat (first | refine blk_drewN ?_ _ | refine blk_drew ?_ | refine blk_alloc ?_ _)); exact BK136.out) NB136_121.out (by simp)); have n2_ := Aside0.mk (Kd.R_mono (Kd.R_keep (IsS76.apart (show IsS76 w _ gb121 t134 t135 from by repeat (first | (with_reducible first | exact HI121.out | apply IsS76.alloc | apply IsS76.drewN | apply IsS76.drew | apply IsS76.set_0 | apply IsS76.set_1 | refine IsS76.far ?_ NB121_136.out _) | exact HI121.out)) (by (with_reducible repeat (first | apply Kd.R_alloc | apply Kd.R_drewN | apply Kd.R_drew)); exact HO139.out) (by decide)) hk (fun _ h => h.2)) (fun _ h => h.1)); have n3_ := Aside0.mk (hb); have n4_ := Aside0.mk (hi); clear HO_8; clear BK136; clear HO139; clear HB; clear HI121; have HO_8 := n0_; have BK136 := n1_; have HO139 := n2_; have HB := n3_; have HI121 := n4_; clear n0_ n1_ n2_ n3_ n4_; (try clear hb); (try clear hb2); (try clear hk); (try clear hi)))
                      repeat (go_quiet (first | (go_at_call 56; (with_reducible refine (relation_reader_relation.calls k2 gb121 x122000_2 x122001_2 t130 t131 t132 t133 t134 t135 w _ ?side1 ?side2 ?side3 A13.out).mono ?_); (case side1 => repeat (first | (with_reducible first | exact HI121.out | apply IsS76.alloc | apply IsS76.drewN | apply IsS76.drew | apply IsS76.set_0 | apply IsS76.set_1) | exact HI121.out)); (case side2 => repeat (first | (with_reducible first | exact HB.out | apply below_alloc | apply pw_below_drewN | apply below_drew1 | refine below_set ?_ (IsS76.ge HI121.out)) | exact HB.out)); (case side3 => exact HG.out); rintro e w18 ⟨rfl, hi, hb, hk⟩; have n0_ := Aside0.mk (Kd.S_mono (Kd.S_keep (IsS76.apartS (show IsS76 w _ gb121 x122000_2 x122001_2 from by repeat (first | (with_reducible first | exact HI121.out | apply IsS76.alloc | apply IsS76.drewN | apply IsS76.drew | apply IsS76.set_0 | apply IsS76.set_1) | exact HI121.out)) (by (with_reducible repeat (first | apply Kd.S_alloc | apply Kd.S_drewN | apply Kd.S_drew)); exact HO_8.out) (by decide)) hk (fun _ h => h.2)) (fun _ h => h.1)); have n1_ := Aside0.mk (Kd.R_mono (Kd.R_keep (IsS76.apart (show IsS76 w _ gb121 x122000_2 x122001_2 from by repeat (first | (with_reducible first | exact HI121.out | apply IsS76.alloc | apply IsS76.drewN | apply IsS76.drew | apply IsS76.set_0 | apply IsS76.set_1) | exact HI121.out)) (by (with_reducible repeat (first | apply Kd.R_alloc | apply Kd.R_drewN | apply Kd.R_drew)); exact HO_10.out) (by decide)) hk (fun _ h => h.2)) (fun _ h => h.1)); have n2_ := Aside0.mk (hb); have n3_ := Aside0.mk (hi); clear HO_8; clear HO_10; clear HB; clear HI121; have HO_8 := n0_; have HO_10 := n1_; have HB := n2_; have HI121 := n3_; clear n0_ n1_ n2_ n3_; (try clear hb); (try clear hb2); (try clear hk); (try clear hi)) | ((with_reducible refine gate_dst (N := 12) rfl ?_); refine box_event ?hg (N := 12) ?hd (cs := #[.string (⟨#[]⟩ : ByteArray), .int .i64 0, .string (⟨#[]⟩ : ByteArray)]) (t := 23) ?hr ?_; (case hd => rfl); (case hg => rfl); (case hr => first | (go_simp; done) | (go_simp; rfl)); intro gb136 hg w19 hbox hb; have n0_ := Aside0.mk (Kd.S_below (Kd.S_elderB (by (with_reducible repeat (first | apply Kd.S_alloc | apply Kd.S_drewN | apply Kd.S_drew)); exact HO_8.out) gb136 (Nat.le_of_eq hg.symm)) hb); have n1_ := Aside0.mk (Kd.R_below (Kd.R_elderB (by (with_reducible repeat (first | apply Kd.R_alloc | apply Kd.R_drewN | apply Kd.R_drew)); exact HO_10.out) gb136 (Nat.le_of_eq hg.symm)) hb); have n2_ := Aside0.mk (IsS76.below (by repeat (first | (with_reducible first | exact HI121.out | apply IsS76.alloc | apply IsS76.drewN | apply IsS76.drew | apply IsS76.set_0 | apply IsS76.set_1) | exact HI121.out)) hb); have n3_ := Aside0.mk (below_step (by repeat (first | (with_reducible first | exact HB.out | apply below_alloc | apply pw_below_drewN | apply below_drew1 | refine below_set ?_ (IsS76.ge HI121.out)) | exact HB.out)) hb); have n4_ := Aside0.mk (hbox); have n5_ := Aside0.mk ((by rw [hg]; exact (below_size (by repeat (first | (with_reducible first | exact HB.out | apply below_alloc | apply pw_below_drewN | apply below_drew1 | refine below_set ?_ (IsS76.ge HI121.out)) | exact HB.out))) : w.heap.size ≤ gb136)); have n6_ := Aside0.mk ((by rw [hg]; exact (below_size (by repeat (first | (with_reducible first | exact HB.out | apply below_alloc | apply pw_below_drewN | apply below_drew1 | refine below_set ?_ (IsS76.ge HI121.out)) | exact HB.out))) : w.heap.size ≤ gb136)); have n7_ := Aside0.mk ((by rw [hg]; exact Nat.ne_of_lt (IsS76.lt (show IsS76 w _ gb121 t134 t135 from by repeat (first | (with_reducible first | exact HI121.out | apply IsS76.alloc | apply IsS76.drewN | apply IsS76.drew | apply IsS76.set_0 | apply IsS76.set_1) | exact HI121.out))) : gb121 ≠ gb136)); have n8_ := Aside0.mk ((by rw [hg]; exact Nat.ne_of_gt (IsS76.lt (show IsS76 w _ gb121 t134 t135 from by repeat (first | (with_reducible first | exact HI121.out | apply IsS76.alloc | apply IsS76.drewN | apply IsS76.drew | apply IsS76.set_0 | apply IsS76.set_1) | exact HI121.out))) : gb136 ≠ gb121)); clear HO_8; clear HO_10; clear HI121; clear HB; have HO_8 := n0_; have HO_10 := n1_; have HI121 := n2_; have HB := n3_; have BK136 := n4_; have GW136 := n5_; have GE136 := n6_; have NB121_136 := n7_; have NB136_121 := n8_; clear n0_ n1_ n2_ n3_ n4_ n5_ n6_ n7_ n8_; clear hb hbox hg; have hnb20 := NB136_121.out; have hnc20 := NB121_136.out; have hcz21_0 : w19.cell? ⟨gb136, 0, none⟩ = some (.string (⟨#[]⟩ : ByteArray)) := (blk_cell BK136.out 0).trans rfl; have hcz21_1 : w19.cell? ⟨gb136, 1, none⟩ = some (.int .i64 0) := (blk_cell BK136.out 1).trans rfl; have hcz21_2 : w19.cell? ⟨gb136, 2, none⟩ = some (.string (⟨#[]⟩ : ByteArray)) := (blk_cell BK136.out 2).trans rfl; have hfz21_0 := blk_frozen BK136.out 0; have hfz21_1 := blk_frozen BK136.out 1; have hfz21_2 := blk_frozen BK136.out 2) | ((with_reducible refine gate_builtin (b := .append) (xs := #[.tmp 40, .tmp 42]) rfl ?_); at_builtin; refine Kd.R_append k23 (w0 := w) w.heap.size rfl (.tmp 40) (.tmp 42) 32 23 (.agg #[(.string ⟨#[]⟩), (.int .i64 0), (.string ⟨#[]⟩)]) 40 rfl Tryd.underlying32 info23 rfl (by decide) (by omega) u10 x10_2 (⟨t130, t131, t132⟩ : S23) [.string t130, .int .i64 t131, .string t132] (fun k_ => k_ ≠ gb136) (fun _ => False) rfl (by first | (go_simp; done) | (go_simp; rfl)) ?aP (fun _ hk => hk.elim) ?aF ?aO ?aB ?aS ?aL ?_; (case aP => exact k23_mkM _ _ _ (⟨t130, t131, t132⟩ : S23)); (case aB => exact (by repeat (first | (with_reducible first | exact HB.out | apply below_alloc | apply pw_below_drewN | apply below_drew1 | refine below_set ?_ (IsS76.ge HI121.out) | refine below_set ?_ GE136.out) | exact HB.out))); (case aF => exact (fun k_ hk => Kd.freshB (g := gb136) (o := .cells #[.string t130, .int .i64 t131, .string t132] 23 (0, 0)) (by (with_reducible repeat (first | refine blk_drewN ?_ _ | refine blk_drew ?_ | refine blk_alloc ?_ _)); refine blk_put (cs := #[.string t130, .int .i64 t131, .string (⟨#[]⟩ : ByteArray)]) ?_ 2 _ rfl; (with_reducible repeat (first | refine blk_drewN ?_ _ | refine blk_drew ?_ | refine blk_alloc ?_ _)); refine blk_put (cs := #[.string t130, .int .i64 0, .string (⟨#[]⟩ : ByteArray)]) ?_ 1 _ rfl; (with_reducible repeat (first | refine blk_drewN ?_ _ | refine blk_drew ?_ | refine blk_alloc ?_ _)); refine blk_put (cs := #[.string (⟨#[]⟩ : ByteArray), .int .i64 0, .string (⟨#[]⟩ : ByteArray)]) ?_ 0 _ rfl; (with_reducible repeat (first | refine blk_drewN ?_ _ | refine blk_drew ?_ | refine blk_alloc ?_ _)); exact BK136.out) k_ hk)); (case aO => exact (by (with_reducible repeat (first | apply Kd.R_alloc | apply Kd.R_drewN | apply Kd.R_drew)); exact Kd.R_mono (Kd.R_far (p := ⟨gb136, 2, none⟩) (Kd.R_far (p := ⟨gb136, 1, none⟩) (Kd.R_far (p := ⟨gb136, 0, none⟩) (Kd.R_mono HO_10.out (fun k_ hk => (⟨hk, hk.2⟩ : _ ∧ k_ ≠ gb136))) (fun _ hk => hk.2) (.string t130)) (fun _ hk => hk.2) (.int .i64 t131)) (fun _ hk => hk.2) (.string t132)) (fun _ hk => hk.1.2))); (case aS => exact (below_size (by repeat (first | (with_reducible first | exact HB.out | apply below_alloc | apply pw_below_drewN | apply below_drew1 | refine below_set ?_ (IsS76.ge HI121.out) | refine below_set ?_ GE136.out) | exact HB.out)))); (case aL => have := LMc15.out; omega); intro v138 w22 ho hb hg hat; rw [← Ny137.out] at ho; have n0_ := Aside0.mk (Kd.S_after (ok := (fun k_ => k_ ≠ gb136)) (by (with_reducible repeat (first | apply Kd.S_alloc | apply Kd.S_drewN | apply Kd.S_drew)); exact Kd.S_mono (Kd.S_far (p := ⟨gb136, 2, none⟩) (Kd.S_far (p := ⟨gb136, 1, none⟩) (Kd.S_far (p := ⟨gb136, 0, none⟩) (Kd.S_mono HO_8.out (fun k_ hk => (⟨hk, hk.2⟩ : _ ∧ k_ ≠ gb136))) (fun _ hk => hk.2) (.string t130)) (fun _ hk => hk.2) (.int .i64 t131)) (fun _ hk => hk.2) (.string t132)) (fun _ hk => ⟨hk.1.2, hk.1.1⟩)) hg hat); have n1_ := Aside0.mk (IsS76.grown (show IsS76 w _ gb121 t134 t135 from by repeat (first | (with_reducible first | exact HI121.out | apply IsS76.alloc | apply IsS76.drewN | apply IsS76.drew | apply IsS76.set_0 | apply IsS76.set_1 | refine IsS76.far ?_ NB121_136.out _) | exact HI121.out)) hg (IsS76.own_ne HI121.out HO_10.out (by decide))); have n2_ := Aside0.mk (blk_grown (g := gb136) (o := .cells #[.string t130, .int .i64 t131, .string t132] 23 (0, 0)) (by (with_reducible repeat (first | refine blk_drewN ?_ _ | refine blk_drew ?_ | refine blk_alloc ?_ _)); refine blk_put (cs := #[.string t130, .int .i64 t131, .string (⟨#[]⟩ : ByteArray)]) ?_ 2 _ rfl; (with_reducible repeat (first | refine blk_drewN ?_ _ | refine blk_drew ?_ | refine blk_alloc ?_ _)); refine blk_put (cs := #[.string t130, .int .i64 0, .string (⟨#[]⟩ : ByteArray)]) ?_ 1 _ rfl; (with_reducible repeat (first | refine blk_drewN ?_ _ | refine blk_drew ?_ | refine blk_alloc ?_ _)); refine blk_put (cs := #[.string (⟨#[]⟩ : ByteArray), .int .i64 0, .string (⟨#[]⟩ : ByteArray)]) ?_ 0 _ rfl; (with_reducible repeat (first | refine blk_drewN ?_ _ | refine blk_drew ?_ | refine blk_alloc ?_ _)); exact BK136.out) hg (Kd.R_away HO_10.out (fun _ hk => hk.2))); have n3_ := Aside0.mk (hb); have n4_ := Aside0.mk (ho); clear HO_8; clear HI121; clear BK136; clear HB; clear HO_10; have HO_8 := n0_; have HI121 := n1_; have BK136 := n2_; have HB := n3_; have HO139 := n4_; clear n0_ n1_ n2_ n3_ n4_; clear ho hb hg hat) | (go_at_call 57; (with_reducible refine (relation_reader_takes.calls k2 gb121 t134 t135 124 t140 t141 t142 w _ ?side1 ?side2 A17.out).mono ?_); (case side1 => repeat (first | (with_reducible first | exact HI121.out | apply IsS76.alloc | apply IsS76.drewN | apply IsS76.drew | apply IsS76.set_0 | apply IsS76.set_1 | refine IsS76.far ?_ NB121_136.out _) | exact HI121.out)); (case side2 => repeat (first | (with_reducible first | exact HB.out | apply below_alloc | apply pw_below_drewN | apply below_drew1 | refine below_set ?_ (IsS76.ge HI121.out) | refine below_set ?_ GE136.out) | exact HB.out)); rintro e w23 ⟨rfl, hi, hb, hk⟩; have n0_ := Aside0.mk (Kd.S_mono (Kd.S_keep (IsS76.apartS (show IsS76 w _ gb121 t134 t135 from by repeat (first | (with_reducible first | exact HI121.out | apply IsS76.alloc | apply IsS76.drewN | apply IsS76.drew | apply IsS76.set_0 | apply IsS76.set_1 | refine IsS76.far ?_ NB121_136.out _) | exact HI121.out)) (by (with_reducible repeat (first | apply Kd.S_alloc | apply Kd.S_drewN | apply Kd.S_drew)); exact HO_8.out) (by decide)) hk (fun _ h => h.2)) (fun _ h => h.1)); have n1_ := Aside0.mk (KeepBut.blk hk (g' := gb136) (o := .cells #[.string t130, .int .i64 t131, .string t132] 23 (0, 0)) (by (with_reducible repeat (first | refine blk_drewN ?_ _ | refine blk_drew ?_ | refine blk_alloc ?_ _)); exact BK136.out) NB136_121.out (by simp)); have n2_ := Aside0.mk (Kd.R_mono (Kd.R_keep (IsS76.apart (show IsS76 w _ gb121 t134 t135 from by repeat (first | (with_reducible first | exact HI121.out | apply IsS76.alloc | apply IsS76.drewN | apply IsS76.drew | apply IsS76.set_0 | apply IsS76.set_1 | refine IsS76.far ?_ NB121_136.out _) | exact HI121.out)) (by (with_reducible repeat (first | apply Kd.R_alloc | apply Kd.R_drewN | apply Kd.R_drew)); exact HO139.out) (by decide)) hk (fun _ h => h.2)) (fun _ h => h.1)); have n3_ := Aside0.mk (hb); have n4_ := Aside0.mk (hi); clear HO_8; clear BK136; clear HO139; clear HB; clear HI121; have HO_8 := n0_; have BK136 := n1_; have HO139 := n2_; have HB := n3_; have HI121 := n4_; clear n0_ n1_ n2_ n3_ n4_; (try clear hb); (try clear hb2); (try clear hk); (try clear hi))); try go_wp2_with (first | (go_at_call 56; (with_reducible refine (relation_reader_relation.calls k2 gb121 x122000_2 x122001_2 t130 t131 t132 t133 t134 t135 w _ ?side1 ?side2 ?side3 A13.out).mono ?_); (case side1 => repeat (first | (with_reducible first | exact HI121.out | apply IsS76.alloc | apply IsS76.drewN | apply IsS76.drew | apply IsS76.set_0 | apply IsS76.set_1) | exact HI121.out)); (case side2 => repeat (first | (with_reducible first | exact HB.out | apply below_alloc | apply pw_below_drewN | apply below_drew1 | refine below_set ?_ (IsS76.ge HI121.out)) | exact HB.out)); (case side3 => exact HG.out); rintro e w18 ⟨rfl, hi, hb, hk⟩; have n0_ := Aside0.mk (Kd.S_mono (Kd.S_keep (IsS76.apartS (show IsS76 w _ gb121 x122000_2 x122001_2 from by repeat (first | (with_reducible first | exact HI121.out | apply IsS76.alloc | apply IsS76.drewN | apply IsS76.drew | apply IsS76.set_0 | apply IsS76.set_1) | exact HI121.out)) (by (with_reducible repeat (first | apply Kd.S_alloc | apply Kd.S_drewN | apply Kd.S_drew)); exact HO_8.out) (by decide)) hk (fun _ h => h.2)) (fun _ h => h.1)); have n1_ := Aside0.mk (Kd.R_mono (Kd.R_keep (IsS76.apart (show IsS76 w _ gb121 x122000_2 x122001_2 from by repeat (first | (with_reducible first | exact HI121.out | apply IsS76.alloc | apply IsS76.drewN | apply IsS76.drew | apply IsS76.set_0 | apply IsS76.set_1) | exact HI121.out)) (by (with_reducible repeat (first | apply Kd.R_alloc | apply Kd.R_drewN | apply Kd.R_drew)); exact HO_10.out) (by decide)) hk (fun _ h => h.2)) (fun _ h => h.1)); have n2_ := Aside0.mk (hb); have n3_ := Aside0.mk (hi); clear HO_8; clear HO_10; clear HB; clear HI121; have HO_8 := n0_; have HO_10 := n1_; have HB := n2_; have HI121 := n3_; clear n0_ n1_ n2_ n3_; (try clear hb); (try clear hb2); (try clear hk); (try clear hi)) | ((with_reducible refine gate_dst (N := 12) rfl ?_); refine box_event ?hg (N := 12) ?hd (cs := #[.string (⟨#[]⟩ : ByteArray), .int .i64 0, .string (⟨#[]⟩ : ByteArray)]) (t := 23) ?hr ?_; (case hd => rfl); (case hg => rfl); (case hr => first | (go_simp; done) | (go_simp; rfl)); intro gb136 hg w19 hbox hb; have n0_ := Aside0.mk (Kd.S_below (Kd.S_elderB (by (with_reducible repeat (first | apply Kd.S_alloc | apply Kd.S_drewN | apply Kd.S_drew)); exact HO_8.out) gb136 (Nat.le_of_eq hg.symm)) hb); have n1_ := Aside0.mk (Kd.R_below (Kd.R_elderB (by (with_reducible repeat (first | apply Kd.R_alloc | apply Kd.R_drewN | apply Kd.R_drew)); exact HO_10.out) gb136 (Nat.le_of_eq hg.symm)) hb); have n2_ := Aside0.mk (IsS76.below (by repeat (first | (with_reducible first | exact HI121.out | apply IsS76.alloc | apply IsS76.drewN | apply IsS76.drew | apply IsS76.set_0 | apply IsS76.set_1) | exact HI121.out)) hb); have n3_ := Aside0.mk (below_step (by repeat (first | (with_reducible first | exact HB.out | apply below_alloc | apply pw_below_drewN | apply below_drew1 | refine below_set ?_ (IsS76.ge HI121.out)) | exact HB.out)) hb); have n4_ := Aside0.mk (hbox); have n5_ := Aside0.mk ((by rw [hg]; exact (below_size (by repeat (first | (with_reducible first | exact HB.out | apply below_alloc | apply pw_below_drewN | apply below_drew1 | refine below_set ?_ (IsS76.ge HI121.out)) | exact HB.out))) : w.heap.size ≤ gb136)); have n6_ := Aside0.mk ((by rw [hg]; exact (below_size (by repeat (first | (with_reducible first | exact HB.out | apply below_alloc | apply pw_below_drewN | apply below_drew1 | refine below_set ?_ (IsS76.ge HI121.out)) | exact HB.out))) : w.heap.size ≤ gb136)); have n7_ := Aside0.mk ((by rw [hg]; exact Nat.ne_of_lt (IsS76.lt (show IsS76 w _ gb121 t134 t135 from by repeat (first | (with_reducible first | exact HI121.out | apply IsS76.alloc | apply IsS76.drewN | apply IsS76.drew | apply IsS76.set_0 | apply IsS76.set_1) | exact HI121.out))) : gb121 ≠ gb136)); have n8_ := Aside0.mk ((by rw [hg]; exact Nat.ne_of_gt (IsS76.lt (show IsS76 w _ gb121 t134 t135 from by repeat (first | (with_reducible first | exact HI121.out | apply IsS76.alloc | apply IsS76.drewN | apply IsS76.drew | apply IsS76.set_0 | apply IsS76.set_1) | exact HI121.out))) : gb136 ≠ gb121)); clear HO_8; clear HO_10; clear HI121; clear HB; have HO_8 := n0_; have HO_10 := n1_; have HI121 := n2_; have HB := n3_; have BK136 := n4_; have GW136 := n5_; have GE136 := n6_; have NB121_136 := n7_; have NB136_121 := n8_; clear n0_ n1_ n2_ n3_ n4_ n5_ n6_ n7_ n8_; clear hb hbox hg; have hnb20 := NB136_121.out; have hnc20 := NB121_136.out; have hcz21_0 : w19.cell? ⟨gb136, 0, none⟩ = some (.string (⟨#[]⟩ : ByteArray)) := (blk_cell BK136.out 0).trans rfl; have hcz21_1 : w19.cell? ⟨gb136, 1, none⟩ = some (.int .i64 0) := (blk_cell BK136.out 1).trans rfl; have hcz21_2 : w19.cell? ⟨gb136, 2, none⟩ = some (.string (⟨#[]⟩ : ByteArray)) := (blk_cell BK136.out 2).trans rfl; have hfz21_0 := blk_frozen BK136.out 0; have hfz21_1 := blk_frozen BK136.out 1; have hfz21_2 := blk_frozen BK136.out 2) | ((with_reducible refine gate_builtin (b := .append) (xs := #[.tmp 40, .tmp 42]) rfl ?_); at_builtin; refine Kd.R_append k23 (w0 := w) w.heap.size rfl (.tmp 40) (.tmp 42) 32 23 (.agg #[(.string ⟨#[]⟩), (.int .i64 0), (.string ⟨#[]⟩)]) 40 rfl Tryd.underlying32 info23 rfl (by decide) (by omega) u10 x10_2 (⟨t130, t131, t132⟩ : S23) [.string t130, .int .i64 t131, .string t132] (fun k_ => k_ ≠ gb136) (fun _ => False) rfl (by first | (go_simp; done) | (go_simp; rfl)) ?aP (fun _ hk => hk.elim) ?aF ?aO ?aB ?aS ?aL ?_; (case aP => exact k23_mkM _ _ _ (⟨t130, t131, t132⟩ : S23)); (case aB => exact (by repeat (first | (with_reducible first | exact HB.out | apply below_alloc | apply pw_below_drewN | apply below_drew1 | refine below_set ?_ (IsS76.ge HI121.out) | refine below_set ?_ GE136.out) | exact HB.out))); (case aF => exact (fun k_ hk => Kd.freshB (g := gb136) (o := .cells #[.string t130, .int .i64 t131, .string t132] 23 (0, 0)) (by (with_reducible repeat (first | refine blk_drewN ?_ _ | refine blk_drew ?_ | refine blk_alloc ?_ _)); refine blk_put (cs := #[.string t130, .int .i64 t131, .string (⟨#[]⟩ : ByteArray)]) ?_ 2 _ rfl; (with_reducible repeat (first | refine blk_drewN ?_ _ | refine blk_drew ?_ | refine blk_alloc ?_ _)); refine blk_put (cs := #[.string t130, .int .i64 0, .string (⟨#[]⟩ : ByteArray)]) ?_ 1 _ rfl; (with_reducible repeat (first | refine blk_drewN ?_ _ | refine blk_drew ?_ | refine blk_alloc ?_ _)); refine blk_put (cs := #[.string (⟨#[]⟩ : ByteArray), .int .i64 0, .string (⟨#[]⟩ : ByteArray)]) ?_ 0 _ rfl; (with_reducible repeat (first | refine blk_drewN ?_ _ | refine blk_drew ?_ | refine blk_alloc ?_ _)); exact BK136.out) k_ hk)); (case aO => exact (by (with_reducible repeat (first | apply Kd.R_alloc | apply Kd.R_drewN | apply Kd.R_drew)); exact Kd.R_mono (Kd.R_far (p := ⟨gb136, 2, none⟩) (Kd.R_far (p := ⟨gb136, 1, none⟩) (Kd.R_far (p := ⟨gb136, 0, none⟩) (Kd.R_mono HO_10.out (fun k_ hk => (⟨hk, hk.2⟩ : _ ∧ k_ ≠ gb136))) (fun _ hk => hk.2) (.string t130)) (fun _ hk => hk.2) (.int .i64 t131)) (fun _ hk => hk.2) (.string t132)) (fun _ hk => hk.1.2))); (case aS => exact (below_size (by repeat (first | (with_reducible first | exact HB.out | apply below_alloc | apply pw_below_drewN | apply below_drew1 | refine below_set ?_ (IsS76.ge HI121.out) | refine below_set ?_ GE136.out) | exact HB.out)))); (case aL => have := LMc15.out; omega); intro v138 w22 ho hb hg hat; rw [← Ny137.out] at ho; have n0_ := Aside0.mk (Kd.S_after (ok := (fun k_ => k_ ≠ gb136)) (by (with_reducible repeat (first | apply Kd.S_alloc | apply Kd.S_drewN | apply Kd.S_drew)); exact Kd.S_mono (Kd.S_far (p := ⟨gb136, 2, none⟩) (Kd.S_far (p := ⟨gb136, 1, none⟩) (Kd.S_far (p := ⟨gb136, 0, none⟩) (Kd.S_mono HO_8.out (fun k_ hk => (⟨hk, hk.2⟩ : _ ∧ k_ ≠ gb136))) (fun _ hk => hk.2) (.string t130)) (fun _ hk => hk.2) (.int .i64 t131)) (fun _ hk => hk.2) (.string t132)) (fun _ hk => ⟨hk.1.2, hk.1.1⟩)) hg hat); have n1_ := Aside0.mk (IsS76.grown (show IsS76 w _ gb121 t134 t135 from by repeat (first | (with_reducible first | exact HI121.out | apply IsS76.alloc | apply IsS76.drewN | apply IsS76.drew | apply IsS76.set_0 | apply IsS76.set_1 | refine IsS76.far ?_ NB121_136.out _) | exact HI121.out)) hg (IsS76.own_ne HI121.out HO_10.out (by decide))); have n2_ := Aside0.mk (blk_grown (g := gb136) (o := .cells #[.string t130, .int .i64 t131, .string t132] 23 (0, 0)) (by (with_reducible repeat (first | refine blk_drewN ?_ _ | refine blk_drew ?_ | refine blk_alloc ?_ _)); refine blk_put (cs := #[.string t130, .int .i64 t131, .string (⟨#[]⟩ : ByteArray)]) ?_ 2 _ rfl; (with_reducible repeat (first | refine blk_drewN ?_ _ | refine blk_drew ?_ | refine blk_alloc ?_ _)); refine blk_put (cs := #[.string t130, .int .i64 0, .string (⟨#[]⟩ : ByteArray)]) ?_ 1 _ rfl; (with_reducible repeat (first | refine blk_drewN ?_ _ | refine blk_drew ?_ | refine blk_alloc ?_ _)); refine blk_put (cs := #[.string (⟨#[]⟩ : ByteArray), .int .i64 0, .string (⟨#[]⟩ : ByteArray)]) ?_ 0 _ rfl; (with_reducible repeat (first | refine blk_drewN ?_ _ | refine blk_drew ?_ | refine blk_alloc ?_ _)); exact BK136.out) hg (Kd.R_away HO_10.out (fun _ hk => hk.2))); have n3_ := Aside0.mk (hb); have n4_ := Aside0.mk (ho); clear HO_8; clear HI121; clear BK136; clear HB; clear HO_10; have HO_8 := n0_; have HI121 := n1_; have BK136 := n2_; have HB := n3_; have HO139 := n4_; clear n0_ n1_ n2_ n3_ n4_; clear ho hb hg hat) | (go_at_call 57; (with_reducible refine (relation_reader_takes.calls k2 gb121 t134 t135 124 t140 t141 t142 w _ ?side1 ?side2 A17.out).mono ?_); (case side1 => repeat (first | (with_reducible first | exact HI121.out | apply IsS76.alloc | apply IsS76.drewN | apply IsS76.drew | apply IsS76.set_0 | apply IsS76.set_1 | refine IsS76.far ?_ NB121_136.out _) | exact HI121.out)); (case side2 => repeat (first | (with_reducible first | exact HB.out | apply below_alloc | apply pw_below_drewN | apply below_drew1 | refine below_set ?_ (IsS76.ge HI121.out) | refine below_set ?_ GE136.out) | exact HB.out)); rintro e w23 ⟨rfl, hi, hb, hk⟩; have n0_ := Aside0.mk (Kd.S_mono (Kd.S_keep (IsS76.apartS (show IsS76 w _ gb121 t134 t135 from by repeat (first | (with_reducible first | exact HI121.out | apply IsS76.alloc | apply IsS76.drewN | apply IsS76.drew | apply IsS76.set_0 | apply IsS76.set_1 | refine IsS76.far ?_ NB121_136.out _) | exact HI121.out)) (by (with_reducible repeat (first | apply Kd.S_alloc | apply Kd.S_drewN | apply Kd.S_drew)); exact HO_8.out) (by decide)) hk (fun _ h => h.2)) (fun _ h => h.1)); have n1_ := Aside0.mk (KeepBut.blk hk (g' := gb136) (o := .cells #[.string t130, .int .i64 t131, .string t132] 23 (0, 0)) (by (with_reducible repeat (first | refine blk_drewN ?_ _ | refine blk_drew ?_ | refine blk_alloc ?_ _)); exact BK136.out) NB136_121.out (by simp)); have n2_ := Aside0.mk (Kd.R_mono (Kd.R_keep (IsS76.apart (show IsS76 w _ gb121 t134 t135 from by repeat (first | (with_reducible first | exact HI121.out | apply IsS76.alloc | apply IsS76.drewN | apply IsS76.drew | apply IsS76.set_0 | apply IsS76.set_1 | refine IsS76.far ?_ NB121_136.out _) | exact HI121.out)) (by (with_reducible repeat (first | apply Kd.R_alloc | apply Kd.R_drewN | apply Kd.R_drew)); exact HO139.out) (by decide)) hk (fun _ h => h.2)) (fun _ h => h.1)); have n3_ := Aside0.mk (hb); have n4_ := Aside0.mk (hi); clear HO_8; clear BK136; clear HO139; clear HB; clear HI121; have HO_8 := n0_; have BK136 := n1_; have HO139 := n2_; have HB := n3_; have HI121 := n4_; clear n0_ n1_ n2_ n3_ n4_; (try clear hb); (try clear hb2); (try clear hk); (try clear hi))))
                      go_roundg k2
                      case measure => have := HK1.out; have := HK2.out; omega
                      case rel => exact ⟨(y137), (t140), (t141), (t142), (by first | rfl | (simp; done) | (simp [*]; done)), H', ⟨by have := HK1.out; have := HK2.out; omega⟩, ⟨by (with_reducible repeat (first | apply Kd.S_alloc | apply Kd.S_drewN | apply Kd.S_drew)); exact Kd.S_mono HO_8.out (fun _ hk => hk.2)⟩, ⟨by (with_reducible repeat (first | apply Kd.R_alloc | apply Kd.R_drewN | apply Kd.R_drew)); exact Kd.R_mono HO139.out (fun _ hk => trivial)⟩, ⟨by repeat (first | (with_reducible first | exact HI121.out | apply IsS76.alloc | apply IsS76.drewN | apply IsS76.drew | apply IsS76.set_0 | apply IsS76.set_1 | refine IsS76.far ?_ NB121_136.out _) | exact HI121.out)⟩, ⟨by repeat (first | (with_reducible first | exact HB.out | apply below_alloc | apply pw_below_drewN | apply below_drew1 | refine below_set ?_ (IsS76.ge HI121.out) | refine below_set ?_ GE136.out) | exact HB.out)⟩⟩
                    · replace c16 := Bool.eq_false_iff.mpr c16
                      subst c16
                      have H1 : (relation_read.l1 k2 a0 false x8_1 y137 false t134 t135) = some (r1, r2, r3) := by rw [if_neg (show ¬ (false = true) by decide)] at H; exact H
                      clear H
                      have H := H1
                      clear H1
                      have H' := Aside0.mk H
                      clear H
                      go_wp2_with (first | (go_at_call 56; (with_reducible refine (relation_reader_relation.calls k2 gb121 x122000_2 x122001_2 t130 t131 t132 t133 t134 t135 w _ ?side1 ?side2 ?side3 A13.out).mono ?_); (case side1 => repeat (first | (with_reducible first | exact HI121.out | apply IsS76.alloc | apply IsS76.drewN | apply IsS76.drew | apply IsS76.set_0 | apply IsS76.set_1) | exact HI121.out)); (case side2 => repeat (first | (with_reducible first | exact HB.out | apply below_alloc | apply pw_below_drewN | apply below_drew1 | refine below_set ?_ (IsS76.ge HI121.out)) | exact HB.out)); (case side3 => exact HG.out); rintro e w24 ⟨rfl, hi, hb, hk⟩; have n0_ := Aside0.mk (Kd.S_mono (Kd.S_keep (IsS76.apartS (show IsS76 w _ gb121 x122000_2 x122001_2 from by repeat (first | (with_reducible first | exact HI121.out | apply IsS76.alloc | apply IsS76.drewN | apply IsS76.drew | apply IsS76.set_0 | apply IsS76.set_1) | exact HI121.out)) (by (with_reducible repeat (first | apply Kd.S_alloc | apply Kd.S_drewN | apply Kd.S_drew)); exact HO_8.out) (by decide)) hk (fun _ h => h.2)) (fun _ h => h.1)); have n1_ := Aside0.mk (Kd.R_mono (Kd.R_keep (IsS76.apart (show IsS76 w _ gb121 x122000_2 x122001_2 from by repeat (first | (with_reducible first | exact HI121.out | apply IsS76.alloc | apply IsS76.drewN | apply IsS76.drew | apply IsS76.set_0 | apply IsS76.set_1) | exact HI121.out)) (by (with_reducible repeat (first | apply Kd.R_alloc | apply Kd.R_drewN | apply Kd.R_drew)); exact HO_10.out) (by decide)) hk (fun _ h => h.2)) (fun _ h => h.1)); have n2_ := Aside0.mk (hb); have n3_ := Aside0.mk (hi); clear HO_8; clear HO_10; clear HB; clear HI121; have HO_8 := n0_; have HO_10 := n1_; have HB := n2_; have HI121 := n3_; clear n0_ n1_ n2_ n3_; (try clear hb); (try clear hb2); (try clear hk); (try clear hi)) | ((with_reducible refine gate_dst (N := 12) rfl ?_); refine box_event ?hg (N := 12) ?hd (cs := #[.string (⟨#[]⟩ : ByteArray), .int .i64 0, .string (⟨#[]⟩ : ByteArray)]) (t := 23) ?hr ?_; (case hd => rfl); (case hg => rfl); (case hr => first | (go_simp; done) | (go_simp; rfl)); intro gb136 hg w25 hbox hb; have n0_ := Aside0.mk (Kd.S_below (Kd.S_elderB (by (with_reducible repeat (first | apply Kd.S_alloc | apply Kd.S_drewN | apply Kd.S_drew)); exact HO_8.out) gb136 (Nat.le_of_eq hg.symm)) hb); have n1_ := Aside0.mk (Kd.R_below (Kd.R_elderB (by (with_reducible repeat (first | apply Kd.R_alloc | apply Kd.R_drewN | apply Kd.R_drew)); exact HO_10.out) gb136 (Nat.le_of_eq hg.symm)) hb); have n2_ := Aside0.mk (IsS76.below (by repeat (first | (with_reducible first | exact HI121.out | apply IsS76.alloc | apply IsS76.drewN | apply IsS76.drew | apply IsS76.set_0 | apply IsS76.set_1) | exact HI121.out)) hb); have n3_ := Aside0.mk (below_step (by repeat (first | (with_reducible first | exact HB.out | apply below_alloc | apply pw_below_drewN | apply below_drew1 | refine below_set ?_ (IsS76.ge HI121.out)) | exact HB.out)) hb); have n4_ := Aside0.mk (hbox); have n5_ := Aside0.mk ((by rw [hg]; exact (below_size (by repeat (first | (with_reducible first | exact HB.out | apply below_alloc | apply pw_below_drewN | apply below_drew1 | refine below_set ?_ (IsS76.ge HI121.out)) | exact HB.out))) : w.heap.size ≤ gb136)); have n6_ := Aside0.mk ((by rw [hg]; exact (below_size (by repeat (first | (with_reducible first | exact HB.out | apply below_alloc | apply pw_below_drewN | apply below_drew1 | refine below_set ?_ (IsS76.ge HI121.out)) | exact HB.out))) : w.heap.size ≤ gb136)); have n7_ := Aside0.mk ((by rw [hg]; exact Nat.ne_of_lt (IsS76.lt (show IsS76 w _ gb121 t134 t135 from by repeat (first | (with_reducible first | exact HI121.out | apply IsS76.alloc | apply IsS76.drewN | apply IsS76.drew | apply IsS76.set_0 | apply IsS76.set_1) | exact HI121.out))) : gb121 ≠ gb136)); have n8_ := Aside0.mk ((by rw [hg]; exact Nat.ne_of_gt (IsS76.lt (show IsS76 w _ gb121 t134 t135 from by repeat (first | (with_reducible first | exact HI121.out | apply IsS76.alloc | apply IsS76.drewN | apply IsS76.drew | apply IsS76.set_0 | apply IsS76.set_1) | exact HI121.out))) : gb136 ≠ gb121)); clear HO_8; clear HO_10; clear HI121; clear HB; have HO_8 := n0_; have HO_10 := n1_; have HI121 := n2_; have HB := n3_; have BK136 := n4_; have GW136 := n5_; have GE136 := n6_; have NB121_136 := n7_; have NB136_121 := n8_; clear n0_ n1_ n2_ n3_ n4_ n5_ n6_ n7_ n8_; clear hb hbox hg; have hnb26 := NB136_121.out; have hnc26 := NB121_136.out; have hcz27_0 : w25.cell? ⟨gb136, 0, none⟩ = some (.string (⟨#[]⟩ : ByteArray)) := (blk_cell BK136.out 0).trans rfl; have hcz27_1 : w25.cell? ⟨gb136, 1, none⟩ = some (.int .i64 0) := (blk_cell BK136.out 1).trans rfl; have hcz27_2 : w25.cell? ⟨gb136, 2, none⟩ = some (.string (⟨#[]⟩ : ByteArray)) := (blk_cell BK136.out 2).trans rfl; have hfz27_0 := blk_frozen BK136.out 0; have hfz27_1 := blk_frozen BK136.out 1; have hfz27_2 := blk_frozen BK136.out 2) | ((with_reducible refine gate_builtin (b := .append) (xs := #[.tmp 40, .tmp 42]) rfl ?_); at_builtin; refine Kd.R_append k23 (w0 := w) w.heap.size rfl (.tmp 40) (.tmp 42) 32 23 (.agg #[(.string ⟨#[]⟩), (.int .i64 0), (.string ⟨#[]⟩)]) 40 rfl Tryd.underlying32 info23 rfl (by decide) (by omega) u10 x10_2 (⟨t130, t131, t132⟩ : S23) [.string t130, .int .i64 t131, .string t132] (fun k_ => k_ ≠ gb136) (fun _ => False) rfl (by first | (go_simp; done) | (go_simp; rfl)) ?aP (fun _ hk => hk.elim) ?aF ?aO ?aB ?aS ?aL ?_; (case aP => exact k23_mkM _ _ _ (⟨t130, t131, t132⟩ : S23)); (case aB => exact (by repeat (first | (with_reducible first | exact HB.out | apply below_alloc | apply pw_below_drewN | apply below_drew1 | refine below_set ?_ (IsS76.ge HI121.out) | refine below_set ?_ GE136.out) | exact HB.out))); (case aF => exact (fun k_ hk => Kd.freshB (g := gb136) (o := .cells #[.string t130, .int .i64 t131, .string t132] 23 (0, 0)) (by (with_reducible repeat (first | refine blk_drewN ?_ _ | refine blk_drew ?_ | refine blk_alloc ?_ _)); refine blk_put (cs := #[.string t130, .int .i64 t131, .string (⟨#[]⟩ : ByteArray)]) ?_ 2 _ rfl; (with_reducible repeat (first | refine blk_drewN ?_ _ | refine blk_drew ?_ | refine blk_alloc ?_ _)); refine blk_put (cs := #[.string t130, .int .i64 0, .string (⟨#[]⟩ : ByteArray)]) ?_ 1 _ rfl; (with_reducible repeat (first | refine blk_drewN ?_ _ | refine blk_drew ?_ | refine blk_alloc ?_ _)); refine blk_put (cs := #[.string (⟨#[]⟩ : ByteArray), .int .i64 0, .string (⟨#[]⟩ : ByteArray)]) ?_ 0 _ rfl; (with_reducible repeat (first | refine blk_drewN ?_ _ | refine blk_drew ?_ | refine blk_alloc ?_ _)); exact BK136.out) k_ hk)); (case aO => exact (by (with_reducible repeat (first | apply Kd.R_alloc | apply Kd.R_drewN | apply Kd.R_drew)); exact Kd.R_mono (Kd.R_far (p := ⟨gb136, 2, none⟩) (Kd.R_far (p := ⟨gb136, 1, none⟩) (Kd.R_far (p := ⟨gb136, 0, none⟩) (Kd.R_mono HO_10.out (fun k_ hk => (⟨hk, hk.2⟩ : _ ∧ k_ ≠ gb136))) (fun _ hk => hk.2) (.string t130)) (fun _ hk => hk.2) (.int .i64 t131)) (fun _ hk => hk.2) (.string t132)) (fun _ hk => hk.1.2))); (case aS => exact (below_size (by repeat (first | (with_reducible first | exact HB.out | apply below_alloc | apply pw_below_drewN | apply below_drew1 | refine below_set ?_ (IsS76.ge HI121.out) | refine below_set ?_ GE136.out) | exact HB.out)))); (case aL => have := LMc15.out; omega); intro v138 w28 ho hb hg hat; rw [← Ny137.out] at ho; have n0_ := Aside0.mk (Kd.S_after (ok := (fun k_ => k_ ≠ gb136)) (by (with_reducible repeat (first | apply Kd.S_alloc | apply Kd.S_drewN | apply Kd.S_drew)); exact Kd.S_mono (Kd.S_far (p := ⟨gb136, 2, none⟩) (Kd.S_far (p := ⟨gb136, 1, none⟩) (Kd.S_far (p := ⟨gb136, 0, none⟩) (Kd.S_mono HO_8.out (fun k_ hk => (⟨hk, hk.2⟩ : _ ∧ k_ ≠ gb136))) (fun _ hk => hk.2) (.string t130)) (fun _ hk => hk.2) (.int .i64 t131)) (fun _ hk => hk.2) (.string t132)) (fun _ hk => ⟨hk.1.2, hk.1.1⟩)) hg hat); have n1_ := Aside0.mk (IsS76.grown (show IsS76 w _ gb121 t134 t135 from by repeat (first | (with_reducible first | exact HI121.out | apply IsS76.alloc | apply IsS76.drewN | apply IsS76.drew | apply IsS76.set_0 | apply IsS76.set_1 | refine IsS76.far ?_ NB121_136.out _) | exact HI121.out)) hg (IsS76.own_ne HI121.out HO_10.out (by decide))); have n2_ := Aside0.mk (blk_grown (g := gb136) (o := .cells #[.string t130, .int .i64 t131, .string t132] 23 (0, 0)) (by (with_reducible repeat (first | refine blk_drewN ?_ _ | refine blk_drew ?_ | refine blk_alloc ?_ _)); refine blk_put (cs := #[.string t130, .int .i64 t131, .string (⟨#[]⟩ : ByteArray)]) ?_ 2 _ rfl; (with_reducible repeat (first | refine blk_drewN ?_ _ | refine blk_drew ?_ | refine blk_alloc ?_ _)); refine blk_put (cs := #[.string t130, .int .i64 0, .string (⟨#[]⟩ : ByteArray)]) ?_ 1 _ rfl; (with_reducible repeat (first | refine blk_drewN ?_ _ | refine blk_drew ?_ | refine blk_alloc ?_ _)); refine blk_put (cs := #[.string (⟨#[]⟩ : ByteArray), .int .i64 0, .string (⟨#[]⟩ : ByteArray)]) ?_ 0 _ rfl; (with_reducible repeat (first | refine blk_drewN ?_ _ | refine blk_drew ?_ | refine blk_alloc ?_ _)); exact BK136.out) hg (Kd.R_away HO_10.out (fun _ hk => hk.2))); have n3_ := Aside0.mk (hb); have n4_ := Aside0.mk (ho); clear HO_8; clear HI121; clear BK136; clear HB; clear HO_10; have HO_8 := n0_; have HI121 := n1_; have BK136 := n2_; have HB := n3_; have HO139 := n4_; clear n0_ n1_ n2_ n3_ n4_; clear ho hb hg hat))
                      repeat (go_quiet (first | (go_at_call 56; (with_reducible refine (relation_reader_relation.calls k2 gb121 x122000_2 x122001_2 t130 t131 t132 t133 t134 t135 w _ ?side1 ?side2 ?side3 A13.out).mono ?_); (case side1 => repeat (first | (with_reducible first | exact HI121.out | apply IsS76.alloc | apply IsS76.drewN | apply IsS76.drew | apply IsS76.set_0 | apply IsS76.set_1) | exact HI121.out)); (case side2 => repeat (first | (with_reducible first | exact HB.out | apply below_alloc | apply pw_below_drewN | apply below_drew1 | refine below_set ?_ (IsS76.ge HI121.out)) | exact HB.out)); (case side3 => exact HG.out); rintro e w24 ⟨rfl, hi, hb, hk⟩; have n0_ := Aside0.mk (Kd.S_mono (Kd.S_keep (IsS76.apartS (show IsS76 w _ gb121 x122000_2 x122001_2 from by repeat (first | (with_reducible first | exact HI121.out | apply IsS76.alloc | apply IsS76.drewN | apply IsS76.drew | apply IsS76.set_0 | apply IsS76.set_1) | exact HI121.out)) (by (with_reducible repeat (first | apply Kd.S_alloc | apply Kd.S_drewN | apply Kd.S_drew)); exact HO_8.out) (by decide)) hk (fun _ h => h.2)) (fun _ h => h.1)); have n1_ := Aside0.mk (Kd.R_mono (Kd.R_keep (IsS76.apart (show IsS76 w _ gb121 x122000_2 x122001_2 from by repeat (first | (with_reducible first | exact HI121.out | apply IsS76.alloc | apply IsS76.drewN | apply IsS76.drew | apply IsS76.set_0 | apply IsS76.set_1) | exact HI121.out)) (by (with_reducible repeat (first | apply Kd.R_alloc | apply Kd.R_drewN | apply Kd.R_drew)); exact HO_10.out) (by decide)) hk (fun _ h => h.2)) (fun _ h => h.1)); have n2_ := Aside0.mk (hb); have n3_ := Aside0.mk (hi); clear HO_8; clear HO_10; clear HB; clear HI121; have HO_8 := n0_; have HO_10 := n1_; have HB := n2_; have HI121 := n3_; clear n0_ n1_ n2_ n3_; (try clear hb); (try clear hb2); (try clear hk); (try clear hi)) | ((with_reducible refine gate_dst (N := 12) rfl ?_); refine box_event ?hg (N := 12) ?hd (cs := #[.string (⟨#[]⟩ : ByteArray), .int .i64 0, .string (⟨#[]⟩ : ByteArray)]) (t := 23) ?hr ?_; (case hd => rfl); (case hg => rfl); (case hr => first | (go_simp; done) | (go_simp; rfl)); intro gb136 hg w25 hbox hb; have n0_ := Aside0.mk (Kd.S_below (Kd.S_elderB (by (with_reducible repeat (first | apply Kd.S_alloc | apply Kd.S_drewN | apply Kd.S_drew)); exact HO_8.out) gb136 (Nat.le_of_eq hg.symm)) hb); have n1_ := Aside0.mk (Kd.R_below (Kd.R_elderB (by (with_reducible repeat (first | apply Kd.R_alloc | apply Kd.R_drewN | apply Kd.R_drew)); exact HO_10.out) gb136 (Nat.le_of_eq hg.symm)) hb); have n2_ := Aside0.mk (IsS76.below (by repeat (first | (with_reducible first | exact HI121.out | apply IsS76.alloc | apply IsS76.drewN | apply IsS76.drew | apply IsS76.set_0 | apply IsS76.set_1) | exact HI121.out)) hb); have n3_ := Aside0.mk (below_step (by repeat (first | (with_reducible first | exact HB.out | apply below_alloc | apply pw_below_drewN | apply below_drew1 | refine below_set ?_ (IsS76.ge HI121.out)) | exact HB.out)) hb); have n4_ := Aside0.mk (hbox); have n5_ := Aside0.mk ((by rw [hg]; exact (below_size (by repeat (first | (with_reducible first | exact HB.out | apply below_alloc | apply pw_below_drewN | apply below_drew1 | refine below_set ?_ (IsS76.ge HI121.out)) | exact HB.out))) : w.heap.size ≤ gb136)); have n6_ := Aside0.mk ((by rw [hg]; exact (below_size (by repeat (first | (with_reducible first | exact HB.out | apply below_alloc | apply pw_below_drewN | apply below_drew1 | refine below_set ?_ (IsS76.ge HI121.out)) | exact HB.out))) : w.heap.size ≤ gb136)); have n7_ := Aside0.mk ((by rw [hg]; exact Nat.ne_of_lt (IsS76.lt (show IsS76 w _ gb121 t134 t135 from by repeat (first | (with_reducible first | exact HI121.out | apply IsS76.alloc | apply IsS76.drewN | apply IsS76.drew | apply IsS76.set_0 | apply IsS76.set_1) | exact HI121.out))) : gb121 ≠ gb136)); have n8_ := Aside0.mk ((by rw [hg]; exact Nat.ne_of_gt (IsS76.lt (show IsS76 w _ gb121 t134 t135 from by repeat (first | (with_reducible first | exact HI121.out | apply IsS76.alloc | apply IsS76.drewN | apply IsS76.drew | apply IsS76.set_0 | apply IsS76.set_1) | exact HI121.out))) : gb136 ≠ gb121)); clear HO_8; clear HO_10; clear HI121; clear HB; have HO_8 := n0_; have HO_10 := n1_; have HI121 := n2_; have HB := n3_; have BK136 := n4_; have GW136 := n5_; have GE136 := n6_; have NB121_136 := n7_; have NB136_121 := n8_; clear n0_ n1_ n2_ n3_ n4_ n5_ n6_ n7_ n8_; clear hb hbox hg; have hnb26 := NB136_121.out; have hnc26 := NB121_136.out; have hcz27_0 : w25.cell? ⟨gb136, 0, none⟩ = some (.string (⟨#[]⟩ : ByteArray)) := (blk_cell BK136.out 0).trans rfl; have hcz27_1 : w25.cell? ⟨gb136, 1, none⟩ = some (.int .i64 0) := (blk_cell BK136.out 1).trans rfl; have hcz27_2 : w25.cell? ⟨gb136, 2, none⟩ = some (.string (⟨#[]⟩ : ByteArray)) := (blk_cell BK136.out 2).trans rfl; have hfz27_0 := blk_frozen BK136.out 0; have hfz27_1 := blk_frozen BK136.out 1; have hfz27_2 := blk_frozen BK136.out 2) | ((with_reducible refine gate_builtin (b := .append) (xs := #[.tmp 40, .tmp 42]) rfl ?_); at_builtin; refine Kd.R_append k23 (w0 := w) w.heap.size rfl (.tmp 40) (.tmp 42) 32 23 (.agg #[(.string ⟨#[]⟩), (.int .i64 0), (.string ⟨#[]⟩)]) 40 rfl Tryd.underlying32 info23 rfl (by decide) (by omega) u10 x10_2 (⟨t130, t131, t132⟩ : S23) [.string t130, .int .i64 t131, .string t132] (fun k_ => k_ ≠ gb136) (fun _ => False) rfl (by first | (go_simp; done) | (go_simp; rfl)) ?aP (fun _ hk => hk.elim) ?aF ?aO ?aB ?aS ?aL ?_; (case aP => exact k23_mkM _ _ _ (⟨t130, t131, t132⟩ : S23)); (case aB => exact (by repeat (first | (with_reducible first | exact HB.out | apply below_alloc | apply pw_below_drewN | apply below_drew1 | refine below_set ?_ (IsS76.ge HI121.out) | refine below_set ?_ GE136.out) | exact HB.out))); (case aF => exact (fun k_ hk => Kd.freshB (g := gb136) (o := .cells #[.string t130, .int .i64 t131, .string t132] 23 (0, 0)) (by (with_reducible repeat (first | refine blk_drewN ?_ _ | refine blk_drew ?_ | refine blk_alloc ?_ _)); refine blk_put (cs := #[.string t130, .int .i64 t131, .string (⟨#[]⟩ : ByteArray)]) ?_ 2 _ rfl; (with_reducible repeat (first | refine blk_drewN ?_ _ | refine blk_drew ?_ | refine blk_alloc ?_ _)); refine blk_put (cs := #[.string t130, .int .i64 0, .string (⟨#[]⟩ : ByteArray)]) ?_ 1 _ rfl; (with_reducible repeat (first | refine blk_drewN ?_ _ | refine blk_drew ?_ | refine blk_alloc ?_ _)); refine blk_put (cs := #[.string (⟨#[]⟩ : ByteArray), .int .i64 0, .string (⟨#[]⟩ : ByteArray)]) ?_ 0 _ rfl; (with_reducible repeat (first | refine blk_drewN ?_ _ | refine blk_drew ?_ | refine blk_alloc ?_ _)); exact BK136.out) k_ hk)); (case aO => exact (by (with_reducible repeat (first | apply Kd.R_alloc | apply Kd.R_drewN | apply Kd.R_drew)); exact Kd.R_mono (Kd.R_far (p := ⟨gb136, 2, none⟩) (Kd.R_far (p := ⟨gb136, 1, none⟩) (Kd.R_far (p := ⟨gb136, 0, none⟩) (Kd.R_mono HO_10.out (fun k_ hk => (⟨hk, hk.2⟩ : _ ∧ k_ ≠ gb136))) (fun _ hk => hk.2) (.string t130)) (fun _ hk => hk.2) (.int .i64 t131)) (fun _ hk => hk.2) (.string t132)) (fun _ hk => hk.1.2))); (case aS => exact (below_size (by repeat (first | (with_reducible first | exact HB.out | apply below_alloc | apply pw_below_drewN | apply below_drew1 | refine below_set ?_ (IsS76.ge HI121.out) | refine below_set ?_ GE136.out) | exact HB.out)))); (case aL => have := LMc15.out; omega); intro v138 w28 ho hb hg hat; rw [← Ny137.out] at ho; have n0_ := Aside0.mk (Kd.S_after (ok := (fun k_ => k_ ≠ gb136)) (by (with_reducible repeat (first | apply Kd.S_alloc | apply Kd.S_drewN | apply Kd.S_drew)); exact Kd.S_mono (Kd.S_far (p := ⟨gb136, 2, none⟩) (Kd.S_far (p := ⟨gb136, 1, none⟩) (Kd.S_far (p := ⟨gb136, 0, none⟩) (Kd.S_mono HO_8.out (fun k_ hk => (⟨hk, hk.2⟩ : _ ∧ k_ ≠ gb136))) (fun _ hk => hk.2) (.string t130)) (fun _ hk => hk.2) (.int .i64 t131)) (fun _ hk => hk.2) (.string t132)) (fun _ hk => ⟨hk.1.2, hk.1.1⟩)) hg hat); have n1_ := Aside0.mk (IsS76.grown (show IsS76 w _ gb121 t134 t135 from by repeat (first | (with_reducible first | exact HI121.out | apply IsS76.alloc | apply IsS76.drewN | apply IsS76.drew | apply IsS76.set_0 | apply IsS76.set_1 | refine IsS76.far ?_ NB121_136.out _) | exact HI121.out)) hg (IsS76.own_ne HI121.out HO_10.out (by decide))); have n2_ := Aside0.mk (blk_grown (g := gb136) (o := .cells #[.string t130, .int .i64 t131, .string t132] 23 (0, 0)) (by (with_reducible repeat (first | refine blk_drewN ?_ _ | refine blk_drew ?_ | refine blk_alloc ?_ _)); refine blk_put (cs := #[.string t130, .int .i64 t131, .string (⟨#[]⟩ : ByteArray)]) ?_ 2 _ rfl; (with_reducible repeat (first | refine blk_drewN ?_ _ | refine blk_drew ?_ | refine blk_alloc ?_ _)); refine blk_put (cs := #[.string t130, .int .i64 0, .string (⟨#[]⟩ : ByteArray)]) ?_ 1 _ rfl; (with_reducible repeat (first | refine blk_drewN ?_ _ | refine blk_drew ?_ | refine blk_alloc ?_ _)); refine blk_put (cs := #[.string (⟨#[]⟩ : ByteArray), .int .i64 0, .string (⟨#[]⟩ : ByteArray)]) ?_ 0 _ rfl; (with_reducible repeat (first | refine blk_drewN ?_ _ | refine blk_drew ?_ | refine blk_alloc ?_ _)); exact BK136.out) hg (Kd.R_away HO_10.out (fun _ hk => hk.2))); have n3_ := Aside0.mk (hb); have n4_ := Aside0.mk (ho); clear HO_8; clear HI121; clear BK136; clear HB; clear HO_10; have HO_8 := n0_; have HI121 := n1_; have BK136 := n2_; have HB := n3_; have HO139 := n4_; clear n0_ n1_ n2_ n3_ n4_; clear ho hb hg hat)); try go_wp2_with (first | (go_at_call 56; (with_reducible refine (relation_reader_relation.calls k2 gb121 x122000_2 x122001_2 t130 t131 t132 t133 t134 t135 w _ ?side1 ?side2 ?side3 A13.out).mono ?_); (case side1 => repeat (first | (with_reducible first | exact HI121.out | apply IsS76.alloc | apply IsS76.drewN | apply IsS76.drew | apply IsS76.set_0 | apply IsS76.set_1) | exact HI121.out)); (case side2 => repeat (first | (with_reducible first | exact HB.out | apply below_alloc | apply pw_below_drewN | apply below_drew1 | refine below_set ?_ (IsS76.ge HI121.out)) | exact HB.out)); (case side3 => exact HG.out); rintro e w24 ⟨rfl, hi, hb, hk⟩; have n0_ := Aside0.mk (Kd.S_mono (Kd.S_keep (IsS76.apartS (show IsS76 w _ gb121 x122000_2 x122001_2 from by repeat (first | (with_reducible first | exact HI121.out | apply IsS76.alloc | apply IsS76.drewN | apply IsS76.drew | apply IsS76.set_0 | apply IsS76.set_1) | exact HI121.out)) (by (with_reducible repeat (first | apply Kd.S_alloc | apply Kd.S_drewN | apply Kd.S_drew)); exact HO_8.out) (by decide)) hk (fun _ h => h.2)) (fun _ h => h.1)); have n1_ := Aside0.mk (Kd.R_mono (Kd.R_keep (IsS76.apart (show IsS76 w _ gb121 x122000_2 x122001_2 from by repeat (first | (with_reducible first | exact HI121.out | apply IsS76.alloc | apply IsS76.drewN | apply IsS76.drew | apply IsS76.set_0 | apply IsS76.set_1) | exact HI121.out)) (by (with_reducible repeat (first | apply Kd.R_alloc | apply Kd.R_drewN | apply Kd.R_drew)); exact HO_10.out) (by decide)) hk (fun _ h => h.2)) (fun _ h => h.1)); have n2_ := Aside0.mk (hb); have n3_ := Aside0.mk (hi); clear HO_8; clear HO_10; clear HB; clear HI121; have HO_8 := n0_; have HO_10 := n1_; have HB := n2_; have HI121 := n3_; clear n0_ n1_ n2_ n3_; (try clear hb); (try clear hb2); (try clear hk); (try clear hi)) | ((with_reducible refine gate_dst (N := 12) rfl ?_); refine box_event ?hg (N := 12) ?hd (cs := #[.string (⟨#[]⟩ : ByteArray), .int .i64 0, .string (⟨#[]⟩ : ByteArray)]) (t := 23) ?hr ?_; (case hd => rfl); (case hg => rfl); (case hr => first | (go_simp; done) | (go_simp; rfl)); intro gb136 hg w25 hbox hb; have n0_ := Aside0.mk (Kd.S_below (Kd.S_elderB (by (with_reducible repeat (first | apply Kd.S_alloc | apply Kd.S_drewN | apply Kd.S_drew)); exact HO_8.out) gb136 (Nat.le_of_eq hg.symm)) hb); have n1_ := Aside0.mk (Kd.R_below (Kd.R_elderB (by (with_reducible repeat (first | apply Kd.R_alloc | apply Kd.R_drewN | apply Kd.R_drew)); exact HO_10.out) gb136 (Nat.le_of_eq hg.symm)) hb); have n2_ := Aside0.mk (IsS76.below (by repeat (first | (with_reducible first | exact HI121.out | apply IsS76.alloc | apply IsS76.drewN | apply IsS76.drew | apply IsS76.set_0 | apply IsS76.set_1) | exact HI121.out)) hb); have n3_ := Aside0.mk (below_step (by repeat (first | (with_reducible first | exact HB.out | apply below_alloc | apply pw_below_drewN | apply below_drew1 | refine below_set ?_ (IsS76.ge HI121.out)) | exact HB.out)) hb); have n4_ := Aside0.mk (hbox); have n5_ := Aside0.mk ((by rw [hg]; exact (below_size (by repeat (first | (with_reducible first | exact HB.out | apply below_alloc | apply pw_below_drewN | apply below_drew1 | refine below_set ?_ (IsS76.ge HI121.out)) | exact HB.out))) : w.heap.size ≤ gb136)); have n6_ := Aside0.mk ((by rw [hg]; exact (below_size (by repeat (first | (with_reducible first | exact HB.out | apply below_alloc | apply pw_below_drewN | apply below_drew1 | refine below_set ?_ (IsS76.ge HI121.out)) | exact HB.out))) : w.heap.size ≤ gb136)); have n7_ := Aside0.mk ((by rw [hg]; exact Nat.ne_of_lt (IsS76.lt (show IsS76 w _ gb121 t134 t135 from by repeat (first | (with_reducible first | exact HI121.out | apply IsS76.alloc | apply IsS76.drewN | apply IsS76.drew | apply IsS76.set_0 | apply IsS76.set_1) | exact HI121.out))) : gb121 ≠ gb136)); have n8_ := Aside0.mk ((by rw [hg]; exact Nat.ne_of_gt (IsS76.lt (show IsS76 w _ gb121 t134 t135 from by repeat (first | (with_reducible first | exact HI121.out | apply IsS76.alloc | apply IsS76.drewN | apply IsS76.drew | apply IsS76.set_0 | apply IsS76.set_1) | exact HI121.out))) : gb136 ≠ gb121)); clear HO_8; clear HO_10; clear HI121; clear HB; have HO_8 := n0_; have HO_10 := n1_; have HI121 := n2_; have HB := n3_; have BK136 := n4_; have GW136 := n5_; have GE136 := n6_; have NB121_136 := n7_; have NB136_121 := n8_; clear n0_ n1_ n2_ n3_ n4_ n5_ n6_ n7_ n8_; clear hb hbox hg; have hnb26 := NB136_121.out; have hnc26 := NB121_136.out; have hcz27_0 : w25.cell? ⟨gb136, 0, none⟩ = some (.string (⟨#[]⟩ : ByteArray)) := (blk_cell BK136.out 0).trans rfl; have hcz27_1 : w25.cell? ⟨gb136, 1, none⟩ = some (.int .i64 0) := (blk_cell BK136.out 1).trans rfl; have hcz27_2 : w25.cell? ⟨gb136, 2, none⟩ = some (.string (⟨#[]⟩ : ByteArray)) := (blk_cell BK136.out 2).trans rfl; have hfz27_0 := blk_frozen BK136.out 0; have hfz27_1 := blk_frozen BK136.out 1; have hfz27_2 := blk_frozen BK136.out 2) | ((with_reducible refine gate_builtin (b := .append) (xs := #[.tmp 40, .tmp 42]) rfl ?_); at_builtin; refine Kd.R_append k23 (w0 := w) w.heap.size rfl (.tmp 40) (.tmp 42) 32 23 (.agg #[(.string ⟨#[]⟩), (.int .i64 0), (.string ⟨#[]⟩)]) 40 rfl Tryd.underlying32 info23 rfl (by decide) (by omega) u10 x10_2 (⟨t130, t131, t132⟩ : S23) [.string t130, .int .i64 t131, .string t132] (fun k_ => k_ ≠ gb136) (fun _ => False) rfl (by first | (go_simp; done) | (go_simp; rfl)) ?aP (fun _ hk => hk.elim) ?aF ?aO ?aB ?aS ?aL ?_; (case aP => exact k23_mkM _ _ _ (⟨t130, t131, t132⟩ : S23)); (case aB => exact (by repeat (first | (with_reducible first | exact HB.out | apply below_alloc | apply pw_below_drewN | apply below_drew1 | refine below_set ?_ (IsS76.ge HI121.out) | refine below_set ?_ GE136.out) | exact HB.out))); (case aF => exact (fun k_ hk => Kd.freshB (g := gb136) (o := .cells #[.string t130, .int .i64 t131, .string t132] 23 (0, 0)) (by (with_reducible repeat (first | refine blk_drewN ?_ _ | refine blk_drew ?_ | refine blk_alloc ?_ _)); refine blk_put (cs := #[.string t130, .int .i64 t131, .string (⟨#[]⟩ : ByteArray)]) ?_ 2 _ rfl; (with_reducible repeat (first | refine blk_drewN ?_ _ | refine blk_drew ?_ | refine blk_alloc ?_ _)); refine blk_put (cs := #[.string t130, .int .i64 0, .string (⟨#[]⟩ : ByteArray)]) ?_ 1 _ rfl; (with_reducible repeat (first | refine blk_drewN ?_ _ | refine blk_drew ?_ | refine blk_alloc ?_ _)); refine blk_put (cs := #[.string (⟨#[]⟩ : ByteArray), .int .i64 0, .string (⟨#[]⟩ : ByteArray)]) ?_ 0 _ rfl; (with_reducible repeat (first | refine blk_drewN ?_ _ | refine blk_drew ?_ | refine blk_alloc ?_ _)); exact BK136.out) k_ hk)); (case aO => exact (by (with_reducible repeat (first | apply Kd.R_alloc | apply Kd.R_drewN | apply Kd.R_drew)); exact Kd.R_mono (Kd.R_far (p := ⟨gb136, 2, none⟩) (Kd.R_far (p := ⟨gb136, 1, none⟩) (Kd.R_far (p := ⟨gb136, 0, none⟩) (Kd.R_mono HO_10.out (fun k_ hk => (⟨hk, hk.2⟩ : _ ∧ k_ ≠ gb136))) (fun _ hk => hk.2) (.string t130)) (fun _ hk => hk.2) (.int .i64 t131)) (fun _ hk => hk.2) (.string t132)) (fun _ hk => hk.1.2))); (case aS => exact (below_size (by repeat (first | (with_reducible first | exact HB.out | apply below_alloc | apply pw_below_drewN | apply below_drew1 | refine below_set ?_ (IsS76.ge HI121.out) | refine below_set ?_ GE136.out) | exact HB.out)))); (case aL => have := LMc15.out; omega); intro v138 w28 ho hb hg hat; rw [← Ny137.out] at ho; have n0_ := Aside0.mk (Kd.S_after (ok := (fun k_ => k_ ≠ gb136)) (by (with_reducible repeat (first | apply Kd.S_alloc | apply Kd.S_drewN | apply Kd.S_drew)); exact Kd.S_mono (Kd.S_far (p := ⟨gb136, 2, none⟩) (Kd.S_far (p := ⟨gb136, 1, none⟩) (Kd.S_far (p := ⟨gb136, 0, none⟩) (Kd.S_mono HO_8.out (fun k_ hk => (⟨hk, hk.2⟩ : _ ∧ k_ ≠ gb136))) (fun _ hk => hk.2) (.string t130)) (fun _ hk => hk.2) (.int .i64 t131)) (fun _ hk => hk.2) (.string t132)) (fun _ hk => ⟨hk.1.2, hk.1.1⟩)) hg hat); have n1_ := Aside0.mk (IsS76.grown (show IsS76 w _ gb121 t134 t135 from by repeat (first | (with_reducible first | exact HI121.out | apply IsS76.alloc | apply IsS76.drewN | apply IsS76.drew | apply IsS76.set_0 | apply IsS76.set_1 | refine IsS76.far ?_ NB121_136.out _) | exact HI121.out)) hg (IsS76.own_ne HI121.out HO_10.out (by decide))); have n2_ := Aside0.mk (blk_grown (g := gb136) (o := .cells #[.string t130, .int .i64 t131, .string t132] 23 (0, 0)) (by (with_reducible repeat (first | refine blk_drewN ?_ _ | refine blk_drew ?_ | refine blk_alloc ?_ _)); refine blk_put (cs := #[.string t130, .int .i64 t131, .string (⟨#[]⟩ : ByteArray)]) ?_ 2 _ rfl; (with_reducible repeat (first | refine blk_drewN ?_ _ | refine blk_drew ?_ | refine blk_alloc ?_ _)); refine blk_put (cs := #[.string t130, .int .i64 0, .string (⟨#[]⟩ : ByteArray)]) ?_ 1 _ rfl; (with_reducible repeat (first | refine blk_drewN ?_ _ | refine blk_drew ?_ | refine blk_alloc ?_ _)); refine blk_put (cs := #[.string (⟨#[]⟩ : ByteArray), .int .i64 0, .string (⟨#[]⟩ : ByteArray)]) ?_ 0 _ rfl; (with_reducible repeat (first | refine blk_drewN ?_ _ | refine blk_drew ?_ | refine blk_alloc ?_ _)); exact BK136.out) hg (Kd.R_away HO_10.out (fun _ hk => hk.2))); have n3_ := Aside0.mk (hb); have n4_ := Aside0.mk (ho); clear HO_8; clear HI121; clear BK136; clear HB; clear HO_10; have HO_8 := n0_; have HI121 := n1_; have BK136 := n2_; have HB := n3_; have HO139 := n4_; clear n0_ n1_ n2_ n3_ n4_; clear ho hb hg hat)))
                      go_roundg k2
                      case measure => have := HK1.out; have := HK2.out; omega
                      case rel => exact ⟨(y137), (false), (t134), (t135), (by first | rfl | (simp; done) | (simp [*]; done)), H', ⟨by have := HK1.out; have := HK2.out; omega⟩, ⟨by (with_reducible repeat (first | apply Kd.S_alloc | apply Kd.S_drewN | apply Kd.S_drew)); exact Kd.S_mono HO_8.out (fun _ hk => hk.2)⟩, ⟨by (with_reducible repeat (first | apply Kd.R_alloc | apply Kd.R_drewN | apply Kd.R_drew)); exact Kd.R_mono HO139.out (fun _ hk => trivial)⟩, ⟨by repeat (first | (with_reducible first | exact HI121.out | apply IsS76.alloc | apply IsS76.drewN | apply IsS76.drew | apply IsS76.set_0 | apply IsS76.set_1 | refine IsS76.far ?_ NB121_136.out _) | exact HI121.out)⟩, ⟨by repeat (first | (with_reducible first | exact HB.out | apply below_alloc | apply pw_below_drewN | apply below_drew1 | refine below_set ?_ (IsS76.ge HI121.out) | refine below_set ?_ GE136.out) | exact HB.out)⟩⟩
                  · rw [if_neg c15] at H
                    exact absurd H (by simp)
                · rw [if_neg c14] at H
                  have c14b0 : (t133 == 0) = false := beq_eq_false_iff_ne.mpr c14
                  have c14b1 : (t133 != 0) = true := bne_iff_ne.mpr c14
                  simp only [Option.some.injEq, Prod.mk.injEq] at H
                  obtain ⟨rfl, rfl, rfl⟩ := H
                  go_wp2_with (first | (go_at_call 56; (with_reducible refine (relation_reader_relation.calls k2 gb121 x122000_2 x122001_2 t130 t131 t132 t133 t134 t135 w _ ?side1 ?side2 ?side3 A13.out).mono ?_); (case side1 => repeat (first | (with_reducible first | exact HI121.out | apply IsS76.alloc | apply IsS76.drewN | apply IsS76.drew | apply IsS76.set_0 | apply IsS76.set_1) | exact HI121.out)); (case side2 => repeat (first | (with_reducible first | exact HB.out | apply below_alloc | apply pw_below_drewN | apply below_drew1 | refine below_set ?_ (IsS76.ge HI121.out)) | exact HB.out)); (case side3 => exact HG.out); rintro e w29 ⟨rfl, hi, hb, hk⟩; have n0_ := Aside0.mk (Kd.S_mono (Kd.S_keep (IsS76.apartS (show IsS76 w _ gb121 x122000_2 x122001_2 from by repeat (first | (with_reducible first | exact HI121.out | apply IsS76.alloc | apply IsS76.drewN | apply IsS76.drew | apply IsS76.set_0 | apply IsS76.set_1) | exact HI121.out)) (by (with_reducible repeat (first | apply Kd.S_alloc | apply Kd.S_drewN | apply Kd.S_drew)); exact HO_8.out) (by decide)) hk (fun _ h => h.2)) (fun _ h => h.1)); have n1_ := Aside0.mk (Kd.R_mono (Kd.R_keep (IsS76.apart (show IsS76 w _ gb121 x122000_2 x122001_2 from by repeat (first | (with_reducible first | exact HI121.out | apply IsS76.alloc | apply IsS76.drewN | apply IsS76.drew | apply IsS76.set_0 | apply IsS76.set_1) | exact HI121.out)) (by (with_reducible repeat (first | apply Kd.R_alloc | apply Kd.R_drewN | apply Kd.R_drew)); exact HO_10.out) (by decide)) hk (fun _ h => h.2)) (fun _ h => h.1)); have n2_ := Aside0.mk (hb); have n3_ := Aside0.mk (hi); clear HO_8; clear HO_10; clear HB; clear HI121; have HO_8 := n0_; have HO_10 := n1_; have HB := n2_; have HI121 := n3_; clear n0_ n1_ n2_ n3_; (try clear hb); (try clear hb2); (try clear hk); (try clear hi)) | ((with_reducible refine gate_dst (N := 12) rfl ?_); refine box_event ?hg (N := 12) ?hd (cs := #[.string (⟨#[]⟩ : ByteArray), .int .i64 0, .string (⟨#[]⟩ : ByteArray)]) (t := 23) ?hr ?_; (case hd => rfl); (case hg => rfl); (case hr => first | (go_simp; done) | (go_simp; rfl)); intro gb136 hg w30 hbox hb; have n0_ := Aside0.mk (Kd.S_below (Kd.S_elderB (by (with_reducible repeat (first | apply Kd.S_alloc | apply Kd.S_drewN | apply Kd.S_drew)); exact HO_8.out) gb136 (Nat.le_of_eq hg.symm)) hb); have n1_ := Aside0.mk (Kd.R_below (Kd.R_elderB (by (with_reducible repeat (first | apply Kd.R_alloc | apply Kd.R_drewN | apply Kd.R_drew)); exact HO_10.out) gb136 (Nat.le_of_eq hg.symm)) hb); have n2_ := Aside0.mk (IsS76.below (by repeat (first | (with_reducible first | exact HI121.out | apply IsS76.alloc | apply IsS76.drewN | apply IsS76.drew | apply IsS76.set_0 | apply IsS76.set_1) | exact HI121.out)) hb); have n3_ := Aside0.mk (below_step (by repeat (first | (with_reducible first | exact HB.out | apply below_alloc | apply pw_below_drewN | apply below_drew1 | refine below_set ?_ (IsS76.ge HI121.out)) | exact HB.out)) hb); have n4_ := Aside0.mk (hbox); have n5_ := Aside0.mk ((by rw [hg]; exact (below_size (by repeat (first | (with_reducible first | exact HB.out | apply below_alloc | apply pw_below_drewN | apply below_drew1 | refine below_set ?_ (IsS76.ge HI121.out)) | exact HB.out))) : w.heap.size ≤ gb136)); have n6_ := Aside0.mk ((by rw [hg]; exact (below_size (by repeat (first | (with_reducible first | exact HB.out | apply below_alloc | apply pw_below_drewN | apply below_drew1 | refine below_set ?_ (IsS76.ge HI121.out)) | exact HB.out))) : w.heap.size ≤ gb136)); have n7_ := Aside0.mk ((by rw [hg]; exact Nat.ne_of_lt (IsS76.lt (show IsS76 w _ gb121 t134 t135 from by repeat (first | (with_reducible first | exact HI121.out | apply IsS76.alloc | apply IsS76.drewN | apply IsS76.drew | apply IsS76.set_0 | apply IsS76.set_1) | exact HI121.out))) : gb121 ≠ gb136)); have n8_ := Aside0.mk ((by rw [hg]; exact Nat.ne_of_gt (IsS76.lt (show IsS76 w _ gb121 t134 t135 from by repeat (first | (with_reducible first | exact HI121.out | apply IsS76.alloc | apply IsS76.drewN | apply IsS76.drew | apply IsS76.set_0 | apply IsS76.set_1) | exact HI121.out))) : gb136 ≠ gb121)); clear HO_8; clear HO_10; clear HI121; clear HB; have HO_8 := n0_; have HO_10 := n1_; have HI121 := n2_; have HB := n3_; have BK136 := n4_; have GW136 := n5_; have GE136 := n6_; have NB121_136 := n7_; have NB136_121 := n8_; clear n0_ n1_ n2_ n3_ n4_ n5_ n6_ n7_ n8_; clear hb hbox hg; have hnb31 := NB136_121.out; have hnc31 := NB121_136.out; have hcz32_0 : w30.cell? ⟨gb136, 0, none⟩ = some (.string (⟨#[]⟩ : ByteArray)) := (blk_cell BK136.out 0).trans rfl; have hcz32_1 : w30.cell? ⟨gb136, 1, none⟩ = some (.int .i64 0) := (blk_cell BK136.out 1).trans rfl; have hcz32_2 : w30.cell? ⟨gb136, 2, none⟩ = some (.string (⟨#[]⟩ : ByteArray)) := (blk_cell BK136.out 2).trans rfl; have hfz32_0 := blk_frozen BK136.out 0; have hfz32_1 := blk_frozen BK136.out 1; have hfz32_2 := blk_frozen BK136.out 2; obtain ⟨HGz33, hgz33⟩ := HI121.out; have hcz33_0 := cellS76_0 HGz33; have hcz33_1 := cellS76_1 HGz33; have hfz33_0 := blk_frozen HGz33 0; have hfz33_1 := blk_frozen HGz33 1; clear HGz33 hgz33))
                  repeat (go_quiet (first | (go_at_call 56; (with_reducible refine (relation_reader_relation.calls k2 gb121 x122000_2 x122001_2 t130 t131 t132 t133 t134 t135 w _ ?side1 ?side2 ?side3 A13.out).mono ?_); (case side1 => repeat (first | (with_reducible first | exact HI121.out | apply IsS76.alloc | apply IsS76.drewN | apply IsS76.drew | apply IsS76.set_0 | apply IsS76.set_1) | exact HI121.out)); (case side2 => repeat (first | (with_reducible first | exact HB.out | apply below_alloc | apply pw_below_drewN | apply below_drew1 | refine below_set ?_ (IsS76.ge HI121.out)) | exact HB.out)); (case side3 => exact HG.out); rintro e w29 ⟨rfl, hi, hb, hk⟩; have n0_ := Aside0.mk (Kd.S_mono (Kd.S_keep (IsS76.apartS (show IsS76 w _ gb121 x122000_2 x122001_2 from by repeat (first | (with_reducible first | exact HI121.out | apply IsS76.alloc | apply IsS76.drewN | apply IsS76.drew | apply IsS76.set_0 | apply IsS76.set_1) | exact HI121.out)) (by (with_reducible repeat (first | apply Kd.S_alloc | apply Kd.S_drewN | apply Kd.S_drew)); exact HO_8.out) (by decide)) hk (fun _ h => h.2)) (fun _ h => h.1)); have n1_ := Aside0.mk (Kd.R_mono (Kd.R_keep (IsS76.apart (show IsS76 w _ gb121 x122000_2 x122001_2 from by repeat (first | (with_reducible first | exact HI121.out | apply IsS76.alloc | apply IsS76.drewN | apply IsS76.drew | apply IsS76.set_0 | apply IsS76.set_1) | exact HI121.out)) (by (with_reducible repeat (first | apply Kd.R_alloc | apply Kd.R_drewN | apply Kd.R_drew)); exact HO_10.out) (by decide)) hk (fun _ h => h.2)) (fun _ h => h.1)); have n2_ := Aside0.mk (hb); have n3_ := Aside0.mk (hi); clear HO_8; clear HO_10; clear HB; clear HI121; have HO_8 := n0_; have HO_10 := n1_; have HB := n2_; have HI121 := n3_; clear n0_ n1_ n2_ n3_; (try clear hb); (try clear hb2); (try clear hk); (try clear hi)) | ((with_reducible refine gate_dst (N := 12) rfl ?_); refine box_event ?hg (N := 12) ?hd (cs := #[.string (⟨#[]⟩ : ByteArray), .int .i64 0, .string (⟨#[]⟩ : ByteArray)]) (t := 23) ?hr ?_; (case hd => rfl); (case hg => rfl); (case hr => first | (go_simp; done) | (go_simp; rfl)); intro gb136 hg w30 hbox hb; have n0_ := Aside0.mk (Kd.S_below (Kd.S_elderB (by (with_reducible repeat (first | apply Kd.S_alloc | apply Kd.S_drewN | apply Kd.S_drew)); exact HO_8.out) gb136 (Nat.le_of_eq hg.symm)) hb); have n1_ := Aside0.mk (Kd.R_below (Kd.R_elderB (by (with_reducible repeat (first | apply Kd.R_alloc | apply Kd.R_drewN | apply Kd.R_drew)); exact HO_10.out) gb136 (Nat.le_of_eq hg.symm)) hb); have n2_ := Aside0.mk (IsS76.below (by repeat (first | (with_reducible first | exact HI121.out | apply IsS76.alloc | apply IsS76.drewN | apply IsS76.drew | apply IsS76.set_0 | apply IsS76.set_1) | exact HI121.out)) hb); have n3_ := Aside0.mk (below_step (by repeat (first | (with_reducible first | exact HB.out | apply below_alloc | apply pw_below_drewN | apply below_drew1 | refine below_set ?_ (IsS76.ge HI121.out)) | exact HB.out)) hb); have n4_ := Aside0.mk (hbox); have n5_ := Aside0.mk ((by rw [hg]; exact (below_size (by repeat (first | (with_reducible first | exact HB.out | apply below_alloc | apply pw_below_drewN | apply below_drew1 | refine below_set ?_ (IsS76.ge HI121.out)) | exact HB.out))) : w.heap.size ≤ gb136)); have n6_ := Aside0.mk ((by rw [hg]; exact (below_size (by repeat (first | (with_reducible first | exact HB.out | apply below_alloc | apply pw_below_drewN | apply below_drew1 | refine below_set ?_ (IsS76.ge HI121.out)) | exact HB.out))) : w.heap.size ≤ gb136)); have n7_ := Aside0.mk ((by rw [hg]; exact Nat.ne_of_lt (IsS76.lt (show IsS76 w _ gb121 t134 t135 from by repeat (first | (with_reducible first | exact HI121.out | apply IsS76.alloc | apply IsS76.drewN | apply IsS76.drew | apply IsS76.set_0 | apply IsS76.set_1) | exact HI121.out))) : gb121 ≠ gb136)); have n8_ := Aside0.mk ((by rw [hg]; exact Nat.ne_of_gt (IsS76.lt (show IsS76 w _ gb121 t134 t135 from by repeat (first | (with_reducible first | exact HI121.out | apply IsS76.alloc | apply IsS76.drewN | apply IsS76.drew | apply IsS76.set_0 | apply IsS76.set_1) | exact HI121.out))) : gb136 ≠ gb121)); clear HO_8; clear HO_10; clear HI121; clear HB; have HO_8 := n0_; have HO_10 := n1_; have HI121 := n2_; have HB := n3_; have BK136 := n4_; have GW136 := n5_; have GE136 := n6_; have NB121_136 := n7_; have NB136_121 := n8_; clear n0_ n1_ n2_ n3_ n4_ n5_ n6_ n7_ n8_; clear hb hbox hg; have hnb31 := NB136_121.out; have hnc31 := NB121_136.out; have hcz32_0 : w30.cell? ⟨gb136, 0, none⟩ = some (.string (⟨#[]⟩ : ByteArray)) := (blk_cell BK136.out 0).trans rfl; have hcz32_1 : w30.cell? ⟨gb136, 1, none⟩ = some (.int .i64 0) := (blk_cell BK136.out 1).trans rfl; have hcz32_2 : w30.cell? ⟨gb136, 2, none⟩ = some (.string (⟨#[]⟩ : ByteArray)) := (blk_cell BK136.out 2).trans rfl; have hfz32_0 := blk_frozen BK136.out 0; have hfz32_1 := blk_frozen BK136.out 1; have hfz32_2 := blk_frozen BK136.out 2; obtain ⟨HGz33, hgz33⟩ := HI121.out; have hcz33_0 := cellS76_0 HGz33; have hcz33_1 := cellS76_1 HGz33; have hfz33_0 := blk_frozen HGz33 0; have hfz33_1 := blk_frozen HGz33 1; clear HGz33 hgz33)); try go_wp2_with (first | (go_at_call 56; (with_reducible refine (relation_reader_relation.calls k2 gb121 x122000_2 x122001_2 t130 t131 t132 t133 t134 t135 w _ ?side1 ?side2 ?side3 A13.out).mono ?_); (case side1 => repeat (first | (with_reducible first | exact HI121.out | apply IsS76.alloc | apply IsS76.drewN | apply IsS76.drew | apply IsS76.set_0 | apply IsS76.set_1) | exact HI121.out)); (case side2 => repeat (first | (with_reducible first | exact HB.out | apply below_alloc | apply pw_below_drewN | apply below_drew1 | refine below_set ?_ (IsS76.ge HI121.out)) | exact HB.out)); (case side3 => exact HG.out); rintro e w29 ⟨rfl, hi, hb, hk⟩; have n0_ := Aside0.mk (Kd.S_mono (Kd.S_keep (IsS76.apartS (show IsS76 w _ gb121 x122000_2 x122001_2 from by repeat (first | (with_reducible first | exact HI121.out | apply IsS76.alloc | apply IsS76.drewN | apply IsS76.drew | apply IsS76.set_0 | apply IsS76.set_1) | exact HI121.out)) (by (with_reducible repeat (first | apply Kd.S_alloc | apply Kd.S_drewN | apply Kd.S_drew)); exact HO_8.out) (by decide)) hk (fun _ h => h.2)) (fun _ h => h.1)); have n1_ := Aside0.mk (Kd.R_mono (Kd.R_keep (IsS76.apart (show IsS76 w _ gb121 x122000_2 x122001_2 from by repeat (first | (with_reducible first | exact HI121.out | apply IsS76.alloc | apply IsS76.drewN | apply IsS76.drew | apply IsS76.set_0 | apply IsS76.set_1) | exact HI121.out)) (by (with_reducible repeat (first | apply Kd.R_alloc | apply Kd.R_drewN | apply Kd.R_drew)); exact HO_10.out) (by decide)) hk (fun _ h => h.2)) (fun _ h => h.1)); have n2_ := Aside0.mk (hb); have n3_ := Aside0.mk (hi); clear HO_8; clear HO_10; clear HB; clear HI121; have HO_8 := n0_; have HO_10 := n1_; have HB := n2_; have HI121 := n3_; clear n0_ n1_ n2_ n3_; (try clear hb); (try clear hb2); (try clear hk); (try clear hi)) | ((with_reducible refine gate_dst (N := 12) rfl ?_); refine box_event ?hg (N := 12) ?hd (cs := #[.string (⟨#[]⟩ : ByteArray), .int .i64 0, .string (⟨#[]⟩ : ByteArray)]) (t := 23) ?hr ?_; (case hd => rfl); (case hg => rfl); (case hr => first | (go_simp; done) | (go_simp; rfl)); intro gb136 hg w30 hbox hb; have n0_ := Aside0.mk (Kd.S_below (Kd.S_elderB (by (with_reducible repeat (first | apply Kd.S_alloc | apply Kd.S_drewN | apply Kd.S_drew)); exact HO_8.out) gb136 (Nat.le_of_eq hg.symm)) hb); have n1_ := Aside0.mk (Kd.R_below (Kd.R_elderB (by (with_reducible repeat (first | apply Kd.R_alloc | apply Kd.R_drewN | apply Kd.R_drew)); exact HO_10.out) gb136 (Nat.le_of_eq hg.symm)) hb); have n2_ := Aside0.mk (IsS76.below (by repeat (first | (with_reducible first | exact HI121.out | apply IsS76.alloc | apply IsS76.drewN | apply IsS76.drew | apply IsS76.set_0 | apply IsS76.set_1) | exact HI121.out)) hb); have n3_ := Aside0.mk (below_step (by repeat (first | (with_reducible first | exact HB.out | apply below_alloc | apply pw_below_drewN | apply below_drew1 | refine below_set ?_ (IsS76.ge HI121.out)) | exact HB.out)) hb); have n4_ := Aside0.mk (hbox); have n5_ := Aside0.mk ((by rw [hg]; exact (below_size (by repeat (first | (with_reducible first | exact HB.out | apply below_alloc | apply pw_below_drewN | apply below_drew1 | refine below_set ?_ (IsS76.ge HI121.out)) | exact HB.out))) : w.heap.size ≤ gb136)); have n6_ := Aside0.mk ((by rw [hg]; exact (below_size (by repeat (first | (with_reducible first | exact HB.out | apply below_alloc | apply pw_below_drewN | apply below_drew1 | refine below_set ?_ (IsS76.ge HI121.out)) | exact HB.out))) : w.heap.size ≤ gb136)); have n7_ := Aside0.mk ((by rw [hg]; exact Nat.ne_of_lt (IsS76.lt (show IsS76 w _ gb121 t134 t135 from by repeat (first | (with_reducible first | exact HI121.out | apply IsS76.alloc | apply IsS76.drewN | apply IsS76.drew | apply IsS76.set_0 | apply IsS76.set_1) | exact HI121.out))) : gb121 ≠ gb136)); have n8_ := Aside0.mk ((by rw [hg]; exact Nat.ne_of_gt (IsS76.lt (show IsS76 w _ gb121 t134 t135 from by repeat (first | (with_reducible first | exact HI121.out | apply IsS76.alloc | apply IsS76.drewN | apply IsS76.drew | apply IsS76.set_0 | apply IsS76.set_1) | exact HI121.out))) : gb136 ≠ gb121)); clear HO_8; clear HO_10; clear HI121; clear HB; have HO_8 := n0_; have HO_10 := n1_; have HI121 := n2_; have HB := n3_; have BK136 := n4_; have GW136 := n5_; have GE136 := n6_; have NB121_136 := n7_; have NB136_121 := n8_; clear n0_ n1_ n2_ n3_ n4_ n5_ n6_ n7_ n8_; clear hb hbox hg; have hnb31 := NB136_121.out; have hnc31 := NB121_136.out; have hcz32_0 : w30.cell? ⟨gb136, 0, none⟩ = some (.string (⟨#[]⟩ : ByteArray)) := (blk_cell BK136.out 0).trans rfl; have hcz32_1 : w30.cell? ⟨gb136, 1, none⟩ = some (.int .i64 0) := (blk_cell BK136.out 1).trans rfl; have hcz32_2 : w30.cell? ⟨gb136, 2, none⟩ = some (.string (⟨#[]⟩ : ByteArray)) := (blk_cell BK136.out 2).trans rfl; have hfz32_0 := blk_frozen BK136.out 0; have hfz32_1 := blk_frozen BK136.out 1; have hfz32_2 := blk_frozen BK136.out 2; obtain ⟨HGz33, hgz33⟩ := HI121.out; have hcz33_0 := cellS76_0 HGz33; have hcz33_1 := cellS76_1 HGz33; have hfz33_0 := blk_frozen HGz33 0; have hfz33_1 := blk_frozen HGz33 1; clear HGz33 hgz33)))
                  go_ret3
                  exact ⟨_, by first | rfl | (simp [errW_none, errW_some] <;> rfl) | (simp [*, errW_none, errW_some] <;> rfl) | (simp [errW_none, errW_some, Go.Proofs.YtphabealejpfnaaDoor.listNe]; done), by first | exact Kd.S_nil _ _ _ _ _ | exact Kd.N_nil _ _ _ _ _ | exact Kd.V_nil _ _ _ _ _ | exact Kd.Q_nil _ _ _ _ _ | exact Kd.R_nil _ _ _ _ _, by repeat (first | (with_reducible first | exact HB.out | apply below_alloc | apply pw_below_drewN | apply below_drew1 | refine below_set ?_ (IsS76.ge HI121.out) | refine below_set ?_ GE136.out) | exact HB.out)⟩
              · replace c12 := Bool.eq_false_iff.mpr c12
                subst c12
                have H1 : (if x8_1.length < 5864062014805 then ((relation_reader_takes.f k2 x122000_2 x122001_2 44).bind fun bt127 => (relation_read.l0 k2 a0 a1 (x8_1 ++ [x10_2]) bt127.1 bt127.2.1 bt127.2.2)) else (none)) = some (r1, r2, r3) := by rw [if_neg (show ¬ (false = true) by decide)] at H; exact H
                clear H
                have H := H1
                clear H1
                by_cases c34 : x8_1.length < 5864062014805
                · rw [if_pos c34] at H
                  have LMc34 := Aside0.mk c34
                  clear c34
                  obtain ⟨y124, hy124⟩ : ∃ y_ : List (List (S23)), y_ = (x8_1 ++ [x10_2]) := ⟨_, rfl⟩
                  replace H : ((relation_reader_takes.f k2 x122000_2 x122001_2 44).bind fun bt127 => (relation_read.l0 k2 a0 a1 y124 bt127.1 bt127.2.1 bt127.2.2)) = some (r1, r2, r3) := by first | (rw [hy124]; with_reducible exact H) | (have H2_ := (Option.bind_some _ _).symm.trans H; rw [hy124]; with_reducible exact H2_) | (have H2_ := (Option.bind_some _ _).symm.trans H; with_reducible exact H2_) | with_reducible exact H | (rw [hy124]; exact H) | exact H
                  have Ny124 := Aside0.mk hy124
                  clear hy124
                  replace H := Option.bind_eq_some_iff.mp H
                  obtain ⟨⟨t127, t128, t129⟩, A350, H⟩ := H
                  replace H : (relation_read.l0 k2 a0 a1 y124 t127 t128 t129) = some (r1, r2, r3) := H
                  have A35 := Aside0.mk A350
                  clear A350
                  have H' := Aside0.mk H
                  clear H
                  obtain ⟨Ao37, co37, eo37⟩ := Kd.R_slice HO_10.out
                  subst eo37
                  go_wp2_with (first | ((with_reducible refine gate_builtin (b := .append) (xs := #[.tmp 49, .tmp 51]) rfl ?_); at_builtin; refine Kd.S_append (Kd.slice 23 k23) (w0 := w) w.heap.size rfl (.tmp 49) (.tmp 51) 27 32 (.slice none 0 0) 24 rfl Tryd.underlying27 info32 rfl (by decide) (by omega) u8 x8_1 x10_2 [.slice Ao37 x10_2.length co37] (fun _ => True) (fun k_ => some k_ = (.slice Ao37 x10_2.length co37 : Value).ownBlock) rfl rfl ?aP (fun k_ hk_ => ((Kd.R_mono (ok' := fun k_ => ((fun _ => True)) k_ ∧ some k_ ≠ (u8 : Value).ownBlock) (Kd.R_apart' (HO_10.out) (Kd.S_typed HO_8.out) (by decide)) (fun k_ hk => ⟨trivial, hk.2⟩))).1 k_ hk_.symm) ?aF ?aO ?aB ?aS ?aL ?_; (case aP => exact Kd.M_row (Kd.R_mono (Kd.R_tight rfl (Kd.R_mono (ok' := fun k_ => ((fun _ => True)) k_ ∧ some k_ ≠ (u8 : Value).ownBlock) (Kd.R_apart' (HO_10.out) (Kd.S_typed HO_8.out) (by decide)) (fun k_ hk => ⟨trivial, hk.2⟩))) (fun _ h_ => h_))); (case aB => exact (by repeat (first | (with_reducible first | exact HB.out | apply below_alloc | apply pw_below_drewN | apply below_drew1 | refine below_set ?_ (IsS76.ge HI121.out)) | exact HB.out))); (case aF => exact (fun _ _ => trivial)); (case aO => exact (by (with_reducible repeat (first | apply Kd.S_alloc | apply Kd.S_drewN | apply Kd.S_drew)); exact Kd.S_mono HO_8.out (fun k_ hk => ⟨trivial, fun e_ => hk e_⟩))); (case aS => exact (below_size (by repeat (first | (with_reducible first | exact HB.out | apply below_alloc | apply pw_below_drewN | apply below_drew1 | refine below_set ?_ (IsS76.ge HI121.out)) | exact HB.out)))); (case aL => have := LMc34.out; omega); intro v125 w36 ho hb hg hat; rw [← Ny124.out] at ho; have n0_ := Aside0.mk (IsS76.grown (show IsS76 w _ gb121 x122000_2 x122001_2 from by repeat (first | (with_reducible first | exact HI121.out | apply IsS76.alloc | apply IsS76.drewN | apply IsS76.drew | apply IsS76.set_0 | apply IsS76.set_1) | exact HI121.out)) hg (IsS76.own_neS HI121.out HO_8.out (by decide))); have n1_ := Aside0.mk (hb); have n2_ := Aside0.mk (ho); clear HI121; clear HB; clear HO_8; clear HO_10; have HI121 := n0_; have HB := n1_; have HO126 := n2_; clear n0_ n1_ n2_; clear ho hb hg hat) | (go_at_call 57; (with_reducible refine (relation_reader_takes.calls k2 gb121 x122000_2 x122001_2 44 t127 t128 t129 w _ ?side1 ?side2 A35.out).mono ?_); (case side1 => repeat (first | (with_reducible first | exact HI121.out | apply IsS76.alloc | apply IsS76.drewN | apply IsS76.drew | apply IsS76.set_0 | apply IsS76.set_1) | exact HI121.out)); (case side2 => repeat (first | (with_reducible first | exact HB.out | apply below_alloc | apply pw_below_drewN | apply below_drew1 | refine below_set ?_ (IsS76.ge HI121.out)) | exact HB.out)); rintro e w38 ⟨rfl, hi, hb, hk⟩; have n0_ := Aside0.mk (Kd.S_mono (Kd.S_keep (IsS76.apartS (show IsS76 w _ gb121 x122000_2 x122001_2 from by repeat (first | (with_reducible first | exact HI121.out | apply IsS76.alloc | apply IsS76.drewN | apply IsS76.drew | apply IsS76.set_0 | apply IsS76.set_1) | exact HI121.out)) (by (with_reducible repeat (first | apply Kd.S_alloc | apply Kd.S_drewN | apply Kd.S_drew)); exact HO126.out) (by decide)) hk (fun _ h => h.2)) (fun _ h => h.1)); have n1_ := Aside0.mk (hb); have n2_ := Aside0.mk (hi); clear HO126; clear HB; clear HI121; have HO126 := n0_; have HB := n1_; have HI121 := n2_; clear n0_ n1_ n2_; (try clear hb); (try clear hb2); (try clear hk); (try clear hi)))
                  repeat (go_quiet (first | ((with_reducible refine gate_builtin (b := .append) (xs := #[.tmp 49, .tmp 51]) rfl ?_); at_builtin; refine Kd.S_append (Kd.slice 23 k23) (w0 := w) w.heap.size rfl (.tmp 49) (.tmp 51) 27 32 (.slice none 0 0) 24 rfl Tryd.underlying27 info32 rfl (by decide) (by omega) u8 x8_1 x10_2 [.slice Ao37 x10_2.length co37] (fun _ => True) (fun k_ => some k_ = (.slice Ao37 x10_2.length co37 : Value).ownBlock) rfl rfl ?aP (fun k_ hk_ => ((Kd.R_mono (ok' := fun k_ => ((fun _ => True)) k_ ∧ some k_ ≠ (u8 : Value).ownBlock) (Kd.R_apart' (HO_10.out) (Kd.S_typed HO_8.out) (by decide)) (fun k_ hk => ⟨trivial, hk.2⟩))).1 k_ hk_.symm) ?aF ?aO ?aB ?aS ?aL ?_; (case aP => exact Kd.M_row (Kd.R_mono (Kd.R_tight rfl (Kd.R_mono (ok' := fun k_ => ((fun _ => True)) k_ ∧ some k_ ≠ (u8 : Value).ownBlock) (Kd.R_apart' (HO_10.out) (Kd.S_typed HO_8.out) (by decide)) (fun k_ hk => ⟨trivial, hk.2⟩))) (fun _ h_ => h_))); (case aB => exact (by repeat (first | (with_reducible first | exact HB.out | apply below_alloc | apply pw_below_drewN | apply below_drew1 | refine below_set ?_ (IsS76.ge HI121.out)) | exact HB.out))); (case aF => exact (fun _ _ => trivial)); (case aO => exact (by (with_reducible repeat (first | apply Kd.S_alloc | apply Kd.S_drewN | apply Kd.S_drew)); exact Kd.S_mono HO_8.out (fun k_ hk => ⟨trivial, fun e_ => hk e_⟩))); (case aS => exact (below_size (by repeat (first | (with_reducible first | exact HB.out | apply below_alloc | apply pw_below_drewN | apply below_drew1 | refine below_set ?_ (IsS76.ge HI121.out)) | exact HB.out)))); (case aL => have := LMc34.out; omega); intro v125 w36 ho hb hg hat; rw [← Ny124.out] at ho; have n0_ := Aside0.mk (IsS76.grown (show IsS76 w _ gb121 x122000_2 x122001_2 from by repeat (first | (with_reducible first | exact HI121.out | apply IsS76.alloc | apply IsS76.drewN | apply IsS76.drew | apply IsS76.set_0 | apply IsS76.set_1) | exact HI121.out)) hg (IsS76.own_neS HI121.out HO_8.out (by decide))); have n1_ := Aside0.mk (hb); have n2_ := Aside0.mk (ho); clear HI121; clear HB; clear HO_8; clear HO_10; have HI121 := n0_; have HB := n1_; have HO126 := n2_; clear n0_ n1_ n2_; clear ho hb hg hat) | (go_at_call 57; (with_reducible refine (relation_reader_takes.calls k2 gb121 x122000_2 x122001_2 44 t127 t128 t129 w _ ?side1 ?side2 A35.out).mono ?_); (case side1 => repeat (first | (with_reducible first | exact HI121.out | apply IsS76.alloc | apply IsS76.drewN | apply IsS76.drew | apply IsS76.set_0 | apply IsS76.set_1) | exact HI121.out)); (case side2 => repeat (first | (with_reducible first | exact HB.out | apply below_alloc | apply pw_below_drewN | apply below_drew1 | refine below_set ?_ (IsS76.ge HI121.out)) | exact HB.out)); rintro e w38 ⟨rfl, hi, hb, hk⟩; have n0_ := Aside0.mk (Kd.S_mono (Kd.S_keep (IsS76.apartS (show IsS76 w _ gb121 x122000_2 x122001_2 from by repeat (first | (with_reducible first | exact HI121.out | apply IsS76.alloc | apply IsS76.drewN | apply IsS76.drew | apply IsS76.set_0 | apply IsS76.set_1) | exact HI121.out)) (by (with_reducible repeat (first | apply Kd.S_alloc | apply Kd.S_drewN | apply Kd.S_drew)); exact HO126.out) (by decide)) hk (fun _ h => h.2)) (fun _ h => h.1)); have n1_ := Aside0.mk (hb); have n2_ := Aside0.mk (hi); clear HO126; clear HB; clear HI121; have HO126 := n0_; have HB := n1_; have HI121 := n2_; clear n0_ n1_ n2_; (try clear hb); (try clear hb2); (try clear hk); (try clear hi))); try go_wp2_with (first | ((with_reducible refine gate_builtin (b := .append) (xs := #[.tmp 49, .tmp 51]) rfl ?_); at_builtin; refine Kd.S_append (Kd.slice 23 k23) (w0 := w) w.heap.size rfl (.tmp 49) (.tmp 51) 27 32 (.slice none 0 0) 24 rfl Tryd.underlying27 info32 rfl (by decide) (by omega) u8 x8_1 x10_2 [.slice Ao37 x10_2.length co37] (fun _ => True) (fun k_ => some k_ = (.slice Ao37 x10_2.length co37 : Value).ownBlock) rfl rfl ?aP (fun k_ hk_ => ((Kd.R_mono (ok' := fun k_ => ((fun _ => True)) k_ ∧ some k_ ≠ (u8 : Value).ownBlock) (Kd.R_apart' (HO_10.out) (Kd.S_typed HO_8.out) (by decide)) (fun k_ hk => ⟨trivial, hk.2⟩))).1 k_ hk_.symm) ?aF ?aO ?aB ?aS ?aL ?_; (case aP => exact Kd.M_row (Kd.R_mono (Kd.R_tight rfl (Kd.R_mono (ok' := fun k_ => ((fun _ => True)) k_ ∧ some k_ ≠ (u8 : Value).ownBlock) (Kd.R_apart' (HO_10.out) (Kd.S_typed HO_8.out) (by decide)) (fun k_ hk => ⟨trivial, hk.2⟩))) (fun _ h_ => h_))); (case aB => exact (by repeat (first | (with_reducible first | exact HB.out | apply below_alloc | apply pw_below_drewN | apply below_drew1 | refine below_set ?_ (IsS76.ge HI121.out)) | exact HB.out))); (case aF => exact (fun _ _ => trivial)); (case aO => exact (by (with_reducible repeat (first | apply Kd.S_alloc | apply Kd.S_drewN | apply Kd.S_drew)); exact Kd.S_mono HO_8.out (fun k_ hk => ⟨trivial, fun e_ => hk e_⟩))); (case aS => exact (below_size (by repeat (first | (with_reducible first | exact HB.out | apply below_alloc | apply pw_below_drewN | apply below_drew1 | refine below_set ?_ (IsS76.ge HI121.out)) | exact HB.out)))); (case aL => have := LMc34.out; omega); intro v125 w36 ho hb hg hat; rw [← Ny124.out] at ho; have n0_ := Aside0.mk (IsS76.grown (show IsS76 w _ gb121 x122000_2 x122001_2 from by repeat (first | (with_reducible first | exact HI121.out | apply IsS76.alloc | apply IsS76.drewN | apply IsS76.drew | apply IsS76.set_0 | apply IsS76.set_1) | exact HI121.out)) hg (IsS76.own_neS HI121.out HO_8.out (by decide))); have n1_ := Aside0.mk (hb); have n2_ := Aside0.mk (ho); clear HI121; clear HB; clear HO_8; clear HO_10; have HI121 := n0_; have HB := n1_; have HO126 := n2_; clear n0_ n1_ n2_; clear ho hb hg hat) | (go_at_call 57; (with_reducible refine (relation_reader_takes.calls k2 gb121 x122000_2 x122001_2 44 t127 t128 t129 w _ ?side1 ?side2 A35.out).mono ?_); (case side1 => repeat (first | (with_reducible first | exact HI121.out | apply IsS76.alloc | apply IsS76.drewN | apply IsS76.drew | apply IsS76.set_0 | apply IsS76.set_1) | exact HI121.out)); (case side2 => repeat (first | (with_reducible first | exact HB.out | apply below_alloc | apply pw_below_drewN | apply below_drew1 | refine below_set ?_ (IsS76.ge HI121.out)) | exact HB.out)); rintro e w38 ⟨rfl, hi, hb, hk⟩; have n0_ := Aside0.mk (Kd.S_mono (Kd.S_keep (IsS76.apartS (show IsS76 w _ gb121 x122000_2 x122001_2 from by repeat (first | (with_reducible first | exact HI121.out | apply IsS76.alloc | apply IsS76.drewN | apply IsS76.drew | apply IsS76.set_0 | apply IsS76.set_1) | exact HI121.out)) (by (with_reducible repeat (first | apply Kd.S_alloc | apply Kd.S_drewN | apply Kd.S_drew)); exact HO126.out) (by decide)) hk (fun _ h => h.2)) (fun _ h => h.1)); have n1_ := Aside0.mk (hb); have n2_ := Aside0.mk (hi); clear HO126; clear HB; clear HI121; have HO126 := n0_; have HB := n1_; have HI121 := n2_; clear n0_ n1_ n2_; (try clear hb); (try clear hb2); (try clear hk); (try clear hi))))
                  go_roundg k2
                  case measure => have := HK1.out; have := HK2.out; omega
                  case rel => exact ⟨(y124), (t127), (t128), (t129), (by first | rfl | (simp; done) | (simp [*]; done)), H', ⟨by have := HK1.out; have := HK2.out; omega⟩, ⟨by (with_reducible repeat (first | apply Kd.S_alloc | apply Kd.S_drewN | apply Kd.S_drew)); exact HO126.out⟩, ⟨by repeat (first | (with_reducible first | exact HI121.out | apply IsS76.alloc | apply IsS76.drewN | apply IsS76.drew | apply IsS76.set_0 | apply IsS76.set_1) | exact HI121.out)⟩, ⟨by repeat (first | (with_reducible first | exact HB.out | apply below_alloc | apply pw_below_drewN | apply below_drew1 | refine below_set ?_ (IsS76.ge HI121.out)) | exact HB.out)⟩⟩
                · rw [if_neg c34] at H
                  exact absurd H (by simp)
        · replace c11 := Bool.eq_false_iff.mpr c11
          subst c11
          have H1 : (if x122001_1 < (a0.size : Int) then (some (([] : List (List (S23))), 220, x122001_1)) else (some (x8_1, 0, 0))) = some (r1, r2, r3) := by rw [if_neg (show ¬ (false = true) by decide)] at H; exact H
          clear H
          have H := H1
          clear H1
          by_cases c39 : x122001_1 < (a0.size : Int)
          · rw [if_pos c39] at H
            have c39b0 : decide (x122001_1 < (a0.size : Int)) = true := decide_eq_true c39
            clear c39
            simp only [Option.some.injEq, Prod.mk.injEq] at H
            obtain ⟨rfl, rfl, rfl⟩ := H
            obtain ⟨HGz40, hgz40⟩ := HI121.out
            have hcz40_0 := cellS76_0 HGz40
            have hcz40_1 := cellS76_1 HGz40
            have hfz40_0 := blk_frozen HGz40 0
            have hfz40_1 := blk_frozen HGz40 1
            clear HGz40 hgz40
            go_wp2
            repeat (go_quiet (fail); try go_wp2)
            go_ret3
            exact ⟨_, by first | rfl | (simp [errW_none, errW_some] <;> rfl) | (simp [*, errW_none, errW_some] <;> rfl) | (simp [errW_none, errW_some, Go.Proofs.YtphabealejpfnaaDoor.listNe]; done), by first | exact Kd.S_nil _ _ _ _ _ | exact Kd.N_nil _ _ _ _ _ | exact Kd.V_nil _ _ _ _ _ | exact Kd.Q_nil _ _ _ _ _ | exact Kd.R_nil _ _ _ _ _, by repeat (first | (with_reducible first | exact HB.out | apply below_alloc | apply pw_below_drewN | apply below_drew1 | refine below_set ?_ (IsS76.ge HI121.out)) | exact HB.out)⟩
          · rw [if_neg c39] at H
            have c39b0 : decide (x122001_1 < (a0.size : Int)) = false := decide_eq_false c39
            clear c39
            simp only [Option.some.injEq, Prod.mk.injEq] at H
            obtain ⟨rfl, rfl, rfl⟩ := H
            obtain ⟨HGz41, hgz41⟩ := HI121.out
            have hcz41_0 := cellS76_0 HGz41
            have hcz41_1 := cellS76_1 HGz41
            have hfz41_0 := blk_frozen HGz41 0
            have hfz41_1 := blk_frozen HGz41 1
            clear HGz41 hgz41
            go_wp2
            repeat (go_quiet (fail); try go_wp2)
            go_ret3
            exact ⟨_, by first | rfl | (simp [errW_none, errW_some] <;> rfl) | (simp [*, errW_none, errW_some] <;> rfl) | (simp [errW_none, errW_some, Go.Proofs.YtphabealejpfnaaDoor.listNe]; done), by (with_reducible repeat (first | apply Kd.S_alloc | apply Kd.S_drewN | apply Kd.S_drew)); exact HO_8.out, by repeat (first | (with_reducible first | exact HB.out | apply below_alloc | apply pw_below_drewN | apply below_drew1 | refine below_set ?_ (IsS76.ge HI121.out)) | exact HB.out)⟩

/-! ### relation_Read: function 15 -/
def relation_Read.f (k : Nat) (a0 : ByteArray) : Option ((List (List (S23))) × Int × Int) := (relation_read.f k a0 true).bind fun bt143 => (some (bt143.1, bt143.2.1, bt143.2.2))
theorem relation_Read.mono : ∀ a0 k, LeO (relation_Read.f k a0) (relation_Read.f (k + 1) a0) := by
  intro a0 k
  unfold relation_Read.f
  repeat' first
      | (with_reducible exact relation_read.mono _ _ _)
      | (with_reducible exact LeO.refl _)
      | (with_reducible exact LeO.none _)
      | (with_reducible refine LeO.ite ?_ ?_)
      | (with_reducible refine LeO.bind ?_ (fun _ => ?_))
      | exact relation_read.mono _ _ _
      | exact LeO.none _
      | refine LeO.ite ?_ ?_
      | refine LeO.bind ?_ (fun _ => ?_)
set_option maxHeartbeats 8000000 in
set_option maxRecDepth 100000 in
theorem relation_Read.calls (k : Nat) (a0 : ByteArray) (r1 : List (List (S23))) (r2 : Int) (r3 : Int) (w : World) (hG : GG w) (h : relation_Read.f k a0 = some (r1, r2, r3)) :
    Calls Tryd.prog 15 #[.string a0] w fun e w' => ∃ v0_ : Value, e = .returned (.tuple #[v0_, .int .i64 r2, .int .i64 r3]) ∧ Kd.S (Kd.slice 23 k23) 32 w' w.heap.size (fun _ => True) v0_ r1 ∧ Below w.heap.size w w' := by
  have HB := Aside0.mk (Below.refl w.heap.size w)
  have HG := Aside0.mk hG
  clear hG
  have H : ((relation_read.f k a0 true).bind fun bt143 => (some (bt143.1, bt143.2.1, bt143.2.2))) = some (r1, r2, r3) := h
  clear h
  replace H := Option.bind_eq_some_iff.mp H
  obtain ⟨⟨t143, t144, t145⟩, A20, H⟩ := H
  replace H : (some (t143, t144, t145)) = some (r1, r2, r3) := H
  have A2 := Aside0.mk A20
  clear A20
  simp only [Option.some.injEq, Prod.mk.injEq] at H
  obtain ⟨rfl, rfl, rfl⟩ := H
  go_enter Tryd.func15, Tryd.ntmps15
  go_wp2_with (first | ((with_reducible refine gate_callee (f := 42) rfl ?_); refine goesL_ (some 6) rfl rfl Tryd.func42 (by kernel_rfl) rfl #[.string a0, .bool true] rfl (by (try simp only [List.map_toArray, List.map_cons, List.map_nil]); first | done | rfl | (simp only [List.length_drop, List.length_take]; rfl)) ?_; (with_reducible refine (relation_read.calls k a0 true t143 t144 t145 _ ?side1 A2.out).mono ?_); (case side1 => exact GG.below HG.out (by repeat (first | (with_reducible first | exact HB.out | apply below_alloc | apply pw_below_drewN | apply below_drew1) | exact HB.out))); rintro e w3 ⟨v146, rfl, ho0, hb⟩; refine ⟨_, rfl, ?_⟩; have n0_ := Aside0.mk (Kd.S_lower ho0 (below_size (by repeat (first | (with_reducible first | exact HB.out | apply below_alloc | apply pw_below_drewN | apply below_drew1) | exact HB.out)))); have n1_ := Aside0.mk (below_step (by repeat (first | (with_reducible first | exact HB.out | apply below_alloc | apply pw_below_drewN | apply below_drew1) | exact HB.out)) hb); clear HB; have HO147 := n0_; have HB := n1_; clear n0_ n1_; (try clear hb); (try clear hb2); (try clear hk); (try clear hi); (try clear ho0)))
  go_ret3
  exact ⟨_, by first | rfl | (simp [errW_none, errW_some] <;> rfl) | (simp [*, errW_none, errW_some] <;> rfl) | (simp [errW_none, errW_some, Go.Proofs.YtphabealejpfnaaDoor.listNe]; done), by (with_reducible repeat (first | apply Kd.S_alloc | apply Kd.S_drewN | apply Kd.S_drew)); exact HO147.out, by repeat (first | (with_reducible first | exact HB.out | apply below_alloc | apply pw_below_drewN | apply below_drew1) | exact HB.out)⟩

end Go.Proofs.YtphabealejpfnaaDoor.Z
