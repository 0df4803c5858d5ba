-- printed by wip/myprint.py of this session over the kit's print.py; Lean checks it
import Derived.Test.YtphabealejpfnaaDoorV0
import Derived.Test.YtphabealejpfnaaDoorV2
import Derived.Test.YtphabealejpfnaaDoorV3
namespace Go.Proofs.YtphabealejpfnaaDoor.V
open Go.RowKit Go.Proofs.YtphabealejpfnaaDoorW.PrintWords Go.Proofs.YtphabealejpfnaaDoorW.PrintLast Go.Proofs.YtphabealejpfnaaDoorW.PrintMore
attribute [local go_sem] max2_int min2_int max_two min_two max_three min_three max_four min_four   -- for this text's walks alone
set_option linter.unusedVariables false
set_option linter.unusedSimpArgs false

/-! ### relation_reader_run: function 70 -/
def relation_reader_run.l0 : Nat → Bool → Int → ByteArray → Int → Option (ByteArray × ByteArray × Int)
  | 0, _, _, _, _ => none
  | k + 1, x1, x5, x1000, x1001 => if x5 < (x1000.size : Int) then (if 0 ≤ x5 then ((relation_kind.f k (bt x1000 x5)).bind fun t116 => (if x1 = true then (if t116 = 3 then (if t116 = 1 then (if 0 ≤ x1001 then (if x1001 ≤ x5 then (if x5 ≤ (x1000.size : Int) then (some (x1000.extract (x1001 : Int).toNat (x5 : Int).toNat, x1000, x1001)) else (none)) else (none)) else (none)) else (if t116 = 2 then (if 0 ≤ x1001 then (if x1001 ≤ x5 then (if x5 ≤ (x1000.size : Int) then (some (x1000.extract (x1001 : Int).toNat (x5 : Int).toNat, x1000, x1001)) else (none)) else (none)) else (none)) else (relation_reader_run.l0 k x1 (wrap64 (x5 + 1)) x1000 x1001))) else (if 0 ≤ x1001 then (if x1001 ≤ x5 then (if x5 ≤ (x1000.size : Int) then (some (x1000.extract (x1001 : Int).toNat (x5 : Int).toNat, x1000, x1001)) else (none)) else (none)) else (none))) else (if t116 = 1 then (if 0 ≤ x1001 then (if x1001 ≤ x5 then (if x5 ≤ (x1000.size : Int) then (some (x1000.extract (x1001 : Int).toNat (x5 : Int).toNat, x1000, x1001)) else (none)) else (none)) else (none)) else (if t116 = 2 then (if 0 ≤ x1001 then (if x1001 ≤ x5 then (if x5 ≤ (x1000.size : Int) then (some (x1000.extract (x1001 : Int).toNat (x5 : Int).toNat, x1000, x1001)) else (none)) else (none)) else (none)) else (relation_reader_run.l0 k x1 (wrap64 (x5 + 1)) x1000 x1001))))) else (none)) else (if 0 ≤ x1001 then (if x1001 ≤ x5 then (if x5 ≤ (x1000.size : Int) then (some (x1000.extract (x1001 : Int).toNat (x5 : Int).toNat, x1000, x1001)) else (none)) else (none)) else (none))
def relation_reader_run.f (k : Nat) (s0_0 : ByteArray) (s0_1 : Int) (a1 : Bool) : Option (ByteArray × ByteArray × Int) := relation_reader_run.l0 k a1 s0_1 s0_0 s0_1
theorem relation_reader_run.mono_l : ∀ k, (∀ y0 y1 y2 y3, LeO (relation_reader_run.l0 k y0 y1 y2 y3) (relation_reader_run.l0 (k + 1) y0 y1 y2 y3))
  | 0 => fun _ _ _ _ r h => by simp [relation_reader_run.l0] at h
  | k + 1 => by
    have ih0 := relation_reader_run.mono_l k
    · intro y0 y1 y2 y3
      unfold relation_reader_run.l0
      repeat' first
      | (with_reducible exact ih0 _ _ _ _)
      | (with_reducible exact relation_kind.mono _ _)
      | (with_reducible exact LeO.refl _)
      | (with_reducible exact LeO.none _)
      | (with_reducible refine LeO.ite ?_ ?_)
      | (with_reducible refine LeO.bind ?_ (fun _ => ?_))
      | exact ih0 _ _ _ _
      | exact relation_kind.mono _ _
      | exact LeO.none _
      | refine LeO.ite ?_ ?_
      | refine LeO.bind ?_ (fun _ => ?_)
theorem relation_reader_run.mono : ∀ a0 a1 a2 k, LeO (relation_reader_run.f k a0 a1 a2) (relation_reader_run.f (k + 1) a0 a1 a2) := by
  intro a0 a1 a2 k
  have ih0 := relation_reader_run.mono_l k
  unfold relation_reader_run.f
  repeat' first
      | (with_reducible exact ih0 _ _ _ _)
      | (with_reducible exact relation_kind.mono _ _)
      | (with_reducible exact LeO.refl _)
      | (with_reducible exact LeO.none _)
      | (with_reducible refine LeO.ite ?_ ?_)
      | (with_reducible refine LeO.bind ?_ (fun _ => ?_))
      | exact ih0 _ _ _ _
      | exact relation_kind.mono _ _
      | exact LeO.none _
      | refine LeO.ite ?_ ?_
      | refine LeO.bind ?_ (fun _ => ?_)
set_option maxHeartbeats 8000000 in
set_option maxRecDepth 100000 in
theorem relation_reader_run.calls (k : Nat) (g : Nat) (s0_0 : ByteArray) (s0_1 : Int) (a1 : Bool) (r1 : ByteArray) (r2 : ByteArray) (r3 : Int) (w0 w : World) (hI : IsS76 w0 w g s0_0 s0_1) (hB : Below w0.heap.size w0 w) (h : relation_reader_run.f k s0_0 s0_1 a1 = some (r1, r2, r3)) :
    Calls Tryd.prog 70 #[.pointer (some ⟨g, 0, none⟩), .bool a1] w fun e w' => e = .returned (.string r1) ∧ IsS76 w0 w' g r2 r3 ∧ Below w0.heap.size w0 w' ∧ KeepBut w w' g none := by
  have HI0 := Aside0.mk hI
  have HK := Aside0.mk (KeepBut.refl w g none)
  have HL := Aside0.mk hB.size
  clear hI
  have HW0 := Aside0.mk hB.size
  have HB := Aside0.mk hB
  clear hB
  have H : (relation_reader_run.l0 k a1 s0_1 s0_0 s0_1) = some (r1, r2, r3) := h
  clear h
  have H' := Aside0.mk H
  clear H
  obtain ⟨HGz3, hgz3⟩ := HI0.out
  have hcz3_0 := cellS76_0 HGz3
  have hcz3_1 := cellS76_1 HGz3
  have hfz3_0 := blk_frozen HGz3 0
  have hfz3_1 := blk_frozen HGz3 1
  clear HGz3 hgz3
  go_enter Tryd.func70, Tryd.ntmps70
  go_wp2
  repeat (go_quiet (fail); try go_wp2)
  go_loopg [5] k (fun kq v5 w' => ∃ (x5_1 : Int), v5 = .int .i64 x5_1 ∧ Aside0 (relation_reader_run.l0 kq a1 x5_1 s0_0 s0_1 = some (r1, r2, r3)) ∧ Aside0 (kq ≤ k) ∧ Aside0 (IsS76 w0 w' g s0_0 s0_1) ∧ Aside0 (KeepBut w w' g none) ∧ Aside0 (Below w0.heap.size w0 w'))
  case atStart => exact ⟨(s0_1), (by first | rfl | (simp; done) | (simp [*]; done)), H', ⟨Nat.le_refl _⟩, ⟨by repeat (first | (with_reducible first | exact HI0.out | apply IsS76.alloc | apply IsS76.drewN | apply IsS76.drew | apply IsS76.set_0 | apply IsS76.set_1) | exact HI0.out)⟩, ⟨by repeat (first | (with_reducible first | exact HK.out | apply KeepBut.set_ | apply keep_drewN | apply keep_drew | apply keep_alloc) | exact HK.out)⟩, ⟨by repeat (first | (with_reducible first | exact HB.out | apply below_alloc | apply pw_below_drewN | apply below_drew1 | refine below_set ?_ (IsS76.ge HI0.out)) | exact HB.out)⟩⟩
  case round =>
    clear H'
    try clear p2
    try clear hcz3_0
    try clear hcz3_1
    try clear hfz3_0
    try clear hfz3_1
    obtain ⟨x5_1, rfl, HA, HK1, HI0, HK, HB⟩ := hrel
    cases gk with
    | zero => exact absurd HA.out (by simp [relation_reader_run.l0])
    | succ k1 =>
      have H := HA.out
      clear HA
      simp only [relation_reader_run.l0] at H
      by_cases c4 : x5_1 < (s0_0.size : Int)
      · rw [if_pos c4] at H
        have c4b0 : decide (x5_1 < (s0_0.size : Int)) = true := decide_eq_true c4
        clear c4
        by_cases c5 : 0 ≤ x5_1
        · rw [if_pos c5] at H
          have c5b0 : decide (0 ≤ x5_1) = true := decide_eq_true c5
          clear c5
          replace H := Option.bind_eq_some_iff.mp H
          obtain ⟨t116, A70, H⟩ := H
          replace H : (if a1 = true then (if t116 = 3 then (if t116 = 1 then (if 0 ≤ s0_1 then (if s0_1 ≤ x5_1 then (if x5_1 ≤ (s0_0.size : Int) then (some (s0_0.extract (s0_1 : Int).toNat (x5_1 : Int).toNat, s0_0, s0_1)) else (none)) else (none)) else (none)) else (if t116 = 2 then (if 0 ≤ s0_1 then (if s0_1 ≤ x5_1 then (if x5_1 ≤ (s0_0.size : Int) then (some (s0_0.extract (s0_1 : Int).toNat (x5_1 : Int).toNat, s0_0, s0_1)) else (none)) else (none)) else (none)) else (relation_reader_run.l0 k1 a1 (wrap64 (x5_1 + 1)) s0_0 s0_1))) else (if 0 ≤ s0_1 then (if s0_1 ≤ x5_1 then (if x5_1 ≤ (s0_0.size : Int) then (some (s0_0.extract (s0_1 : Int).toNat (x5_1 : Int).toNat, s0_0, s0_1)) else (none)) else (none)) else (none))) else (if t116 = 1 then (if 0 ≤ s0_1 then (if s0_1 ≤ x5_1 then (if x5_1 ≤ (s0_0.size : Int) then (some (s0_0.extract (s0_1 : Int).toNat (x5_1 : Int).toNat, s0_0, s0_1)) else (none)) else (none)) else (none)) else (if t116 = 2 then (if 0 ≤ s0_1 then (if s0_1 ≤ x5_1 then (if x5_1 ≤ (s0_0.size : Int) then (some (s0_0.extract (s0_1 : Int).toNat (x5_1 : Int).toNat, s0_0, s0_1)) else (none)) else (none)) else (none)) else (relation_reader_run.l0 k1 a1 (wrap64 (x5_1 + 1)) s0_0 s0_1)))) = some (r1, r2, r3) := H
          have A7 := Aside0.mk A70
          clear A70
          by_cases c8 : a1 = true
          · subst c8
            have H1 : (if t116 = 3 then (if t116 = 1 then (if 0 ≤ s0_1 then (if s0_1 ≤ x5_1 then (if x5_1 ≤ (s0_0.size : Int) then (some (s0_0.extract (s0_1 : Int).toNat (x5_1 : Int).toNat, s0_0, s0_1)) else (none)) else (none)) else (none)) else (if t116 = 2 then (if 0 ≤ s0_1 then (if s0_1 ≤ x5_1 then (if x5_1 ≤ (s0_0.size : Int) then (some (s0_0.extract (s0_1 : Int).toNat (x5_1 : Int).toNat, s0_0, s0_1)) else (none)) else (none)) else (none)) else (relation_reader_run.l0 k1 true (wrap64 (x5_1 + 1)) s0_0 s0_1))) else (if 0 ≤ s0_1 then (if s0_1 ≤ x5_1 then (if x5_1 ≤ (s0_0.size : Int) then (some (s0_0.extract (s0_1 : Int).toNat (x5_1 : Int).toNat, s0_0, s0_1)) else (none)) else (none)) else (none))) = some (r1, r2, r3) := by rw [if_pos rfl] at H; exact H
            clear H
            have H := H1
            clear H1
            by_cases c9 : t116 = 3
            · rw [if_pos c9] at H
              have c9b0 : (t116 == 3) = true := beq_iff_eq.mpr c9
              have c9b1 : (t116 != 3) = false := bne_eq_false_iff_eq.mpr c9
              clear c9
              by_cases c10 : t116 = 1
              · rw [if_pos c10] at H
                have c10b0 : (t116 == 1) = true := beq_iff_eq.mpr c10
                have c10b1 : (t116 != 1) = false := bne_eq_false_iff_eq.mpr c10
                clear c10
                by_cases c11 : 0 ≤ s0_1
                · rw [if_pos c11] at H
                  have c11b0 := eq_true c11
                  have c11b1 : decide (0 ≤ s0_1) = true := decide_eq_true c11
                  clear c11
                  by_cases c12 : s0_1 ≤ x5_1
                  · rw [if_pos c12] at H
                    have c12b0 := eq_true c12
                    have c12b1 : decide (s0_1 ≤ x5_1) = true := decide_eq_true c12
                    clear c12
                    by_cases c13 : x5_1 ≤ (s0_0.size : Int)
                    · rw [if_pos c13] at H
                      have c13b0 := eq_true c13
                      have c13b1 : decide (x5_1 ≤ (s0_0.size : Int)) = true := decide_eq_true c13
                      clear c13
                      simp only [Option.some.injEq, Prod.mk.injEq] at H
                      obtain ⟨rfl, rfl, rfl⟩ := H
                      obtain ⟨HGz14, hgz14⟩ := HI0.out
                      have hcz14_0 := cellS76_0 HGz14
                      have hcz14_1 := cellS76_1 HGz14
                      have hfz14_0 := blk_frozen HGz14 0
                      have hfz14_1 := blk_frozen HGz14 1
                      clear HGz14 hgz14
                      have p6 : 0 ≤ (x5_1 : Int) := of_decide_eq_true (by first | (with_reducible assumption) | assumption)
                      have q6 : x5_1 < (s0_0.size : Int) := of_decide_eq_true (by first | (with_reducible assumption) | assumption)
                      have hx6 := bt_at s0_0 x5_1
                      replace p6 := eq_true p6
                      replace q6 := eq_true q6
                      go_wp2_with (first | (go_at_call 69; (with_reducible refine (relation_kind.calls k1 (bt s0_0 x5_1) t116 _ A7.out).mono ?_); rintro e w' ⟨rfl, ⟨nd, rfl⟩⟩; (try first | exact ⟨rfl, _, World.drewN_drewN _ _ _⟩ | exact ⟨rfl, _, Eq.trans (World.drewN_drewN _ _ _) (congrArg (World.drewN _) (Nat.add_assoc _ _ _))⟩)))
                      repeat (go_quiet (first | (go_at_call 69; (with_reducible refine (relation_kind.calls k1 (bt s0_0 x5_1) t116 _ A7.out).mono ?_); rintro e w' ⟨rfl, ⟨nd, rfl⟩⟩; (try first | exact ⟨rfl, _, World.drewN_drewN _ _ _⟩ | exact ⟨rfl, _, Eq.trans (World.drewN_drewN _ _ _) (congrArg (World.drewN _) (Nat.add_assoc _ _ _))⟩))); try go_wp2_with (first | (go_at_call 69; (with_reducible refine (relation_kind.calls k1 (bt s0_0 x5_1) t116 _ A7.out).mono ?_); rintro e w' ⟨rfl, ⟨nd, rfl⟩⟩; (try first | exact ⟨rfl, _, World.drewN_drewN _ _ _⟩ | exact ⟨rfl, _, Eq.trans (World.drewN_drewN _ _ _) (congrArg (World.drewN _) (Nat.add_assoc _ _ _))⟩))))
                      go_ret
                      exact ⟨by first | rfl | (simp [errW_none, errW_some] <;> rfl) | (simp [*, errW_none, errW_some] <;> rfl) | (simp [errW_none, errW_some, Go.Proofs.YtphabealejpfnaaDoor.listNe]; done), by repeat (first | (with_reducible first | exact HI0.out | apply IsS76.alloc | apply IsS76.drewN | apply IsS76.drew | apply IsS76.set_0 | apply IsS76.set_1) | exact HI0.out), by repeat (first | (with_reducible first | exact HB.out | apply below_alloc | apply pw_below_drewN | apply below_drew1 | refine below_set ?_ (IsS76.ge HI0.out)) | exact HB.out), by repeat (first | (with_reducible first | exact HK.out | apply KeepBut.set_ | apply keep_drewN | apply keep_drew | apply keep_alloc) | exact HK.out)⟩
                    · rw [if_neg c13] at H
                      exact absurd H (by simp)
                  · rw [if_neg c12] at H
                    exact absurd H (by simp)
                · rw [if_neg c11] at H
                  exact absurd H (by simp)
              · rw [if_neg c10] at H
                have c10b0 : (t116 == 1) = false := beq_eq_false_iff_ne.mpr c10
                have c10b1 : (t116 != 1) = true := bne_iff_ne.mpr c10
                by_cases c15 : t116 = 2
                · rw [if_pos c15] at H
                  have c15b0 : (t116 == 2) = true := beq_iff_eq.mpr c15
                  have c15b1 : (t116 != 2) = false := bne_eq_false_iff_eq.mpr c15
                  clear c15
                  by_cases c16 : 0 ≤ s0_1
                  · rw [if_pos c16] at H
                    have c16b0 := eq_true c16
                    have c16b1 : decide (0 ≤ s0_1) = true := decide_eq_true c16
                    clear c16
                    by_cases c17 : s0_1 ≤ x5_1
                    · rw [if_pos c17] at H
                      have c17b0 := eq_true c17
                      have c17b1 : decide (s0_1 ≤ x5_1) = true := decide_eq_true c17
                      clear c17
                      by_cases c18 : x5_1 ≤ (s0_0.size : Int)
                      · rw [if_pos c18] at H
                        have c18b0 := eq_true c18
                        have c18b1 : decide (x5_1 ≤ (s0_0.size : Int)) = true := decide_eq_true c18
                        clear c18
                        simp only [Option.some.injEq, Prod.mk.injEq] at H
                        obtain ⟨rfl, rfl, rfl⟩ := H
                        obtain ⟨HGz19, hgz19⟩ := HI0.out
                        have hcz19_0 := cellS76_0 HGz19
                        have hcz19_1 := cellS76_1 HGz19
                        have hfz19_0 := blk_frozen HGz19 0
                        have hfz19_1 := blk_frozen HGz19 1
                        clear HGz19 hgz19
                        have p6 : 0 ≤ (x5_1 : Int) := of_decide_eq_true (by first | (with_reducible assumption) | assumption)
                        have q6 : x5_1 < (s0_0.size : Int) := of_decide_eq_true (by first | (with_reducible assumption) | assumption)
                        have hx6 := bt_at s0_0 x5_1
                        replace p6 := eq_true p6
                        replace q6 := eq_true q6
                        go_wp2_with (first | (go_at_call 69; (with_reducible refine (relation_kind.calls k1 (bt s0_0 x5_1) t116 _ A7.out).mono ?_); rintro e w' ⟨rfl, ⟨nd, rfl⟩⟩; (try first | exact ⟨rfl, _, World.drewN_drewN _ _ _⟩ | exact ⟨rfl, _, Eq.trans (World.drewN_drewN _ _ _) (congrArg (World.drewN _) (Nat.add_assoc _ _ _))⟩)))
                        repeat (go_quiet (first | (go_at_call 69; (with_reducible refine (relation_kind.calls k1 (bt s0_0 x5_1) t116 _ A7.out).mono ?_); rintro e w' ⟨rfl, ⟨nd, rfl⟩⟩; (try first | exact ⟨rfl, _, World.drewN_drewN _ _ _⟩ | exact ⟨rfl, _, Eq.trans (World.drewN_drewN _ _ _) (congrArg (World.drewN _) (Nat.add_assoc _ _ _))⟩))); try go_wp2_with (first | (go_at_call 69; (with_reducible refine (relation_kind.calls k1 (bt s0_0 x5_1) t116 _ A7.out).mono ?_); rintro e w' ⟨rfl, ⟨nd, rfl⟩⟩; (try first | exact ⟨rfl, _, World.drewN_drewN _ _ _⟩ | exact ⟨rfl, _, Eq.trans (World.drewN_drewN _ _ _) (congrArg (World.drewN _) (Nat.add_assoc _ _ _))⟩))))
                        go_ret
                        exact ⟨by first | rfl | (simp [errW_none, errW_some] <;> rfl) | (simp [*, errW_none, errW_some] <;> rfl) | (simp [errW_none, errW_some, Go.Proofs.YtphabealejpfnaaDoor.listNe]; done), by repeat (first | (with_reducible first | exact HI0.out | apply IsS76.alloc | apply IsS76.drewN | apply IsS76.drew | apply IsS76.set_0 | apply IsS76.set_1) | exact HI0.out), by repeat (first | (with_reducible first | exact HB.out | apply below_alloc | apply pw_below_drewN | apply below_drew1 | refine below_set ?_ (IsS76.ge HI0.out)) | exact HB.out), by repeat (first | (with_reducible first | exact HK.out | apply KeepBut.set_ | apply keep_drewN | apply keep_drew | apply keep_alloc) | exact HK.out)⟩
                      · rw [if_neg c18] at H
                        exact absurd H (by simp)
                    · rw [if_neg c17] at H
                      exact absurd H (by simp)
                  · rw [if_neg c16] at H
                    exact absurd H (by simp)
                · rw [if_neg c15] at H
                  have c15b0 : (t116 == 2) = false := beq_eq_false_iff_ne.mpr c15
                  have c15b1 : (t116 != 2) = true := bne_iff_ne.mpr c15
                  have H' := Aside0.mk H
                  clear H
                  obtain ⟨HGz20, hgz20⟩ := HI0.out
                  have hcz20_0 := cellS76_0 HGz20
                  have hcz20_1 := cellS76_1 HGz20
                  have hfz20_0 := blk_frozen HGz20 0
                  have hfz20_1 := blk_frozen HGz20 1
                  clear HGz20 hgz20
                  have p6 : 0 ≤ (x5_1 : Int) := of_decide_eq_true (by first | (with_reducible assumption) | assumption)
                  have q6 : x5_1 < (s0_0.size : Int) := of_decide_eq_true (by first | (with_reducible assumption) | assumption)
                  have hx6 := bt_at s0_0 x5_1
                  replace p6 := eq_true p6
                  replace q6 := eq_true q6
                  go_wp2_with (first | (go_at_call 69; (with_reducible refine (relation_kind.calls k1 (bt s0_0 x5_1) t116 _ A7.out).mono ?_); rintro e w' ⟨rfl, ⟨nd, rfl⟩⟩; (try first | exact ⟨rfl, _, World.drewN_drewN _ _ _⟩ | exact ⟨rfl, _, Eq.trans (World.drewN_drewN _ _ _) (congrArg (World.drewN _) (Nat.add_assoc _ _ _))⟩)))
                  repeat (go_quiet (first | (go_at_call 69; (with_reducible refine (relation_kind.calls k1 (bt s0_0 x5_1) t116 _ A7.out).mono ?_); rintro e w' ⟨rfl, ⟨nd, rfl⟩⟩; (try first | exact ⟨rfl, _, World.drewN_drewN _ _ _⟩ | exact ⟨rfl, _, Eq.trans (World.drewN_drewN _ _ _) (congrArg (World.drewN _) (Nat.add_assoc _ _ _))⟩))); try go_wp2_with (first | (go_at_call 69; (with_reducible refine (relation_kind.calls k1 (bt s0_0 x5_1) t116 _ A7.out).mono ?_); rintro e w' ⟨rfl, ⟨nd, rfl⟩⟩; (try first | exact ⟨rfl, _, World.drewN_drewN _ _ _⟩ | exact ⟨rfl, _, Eq.trans (World.drewN_drewN _ _ _) (congrArg (World.drewN _) (Nat.add_assoc _ _ _))⟩))))
                  go_roundg k1
                  case measure => have := HK1.out; omega
                  case rel => exact ⟨(wrap64 (x5_1 + 1)), (by first | rfl | (simp; done) | (simp [*]; done)), H', ⟨by have := HK1.out; omega⟩, ⟨by repeat (first | (with_reducible first | exact HI0.out | apply IsS76.alloc | apply IsS76.drewN | apply IsS76.drew | apply IsS76.set_0 | apply IsS76.set_1) | exact HI0.out)⟩, ⟨by repeat (first | (with_reducible first | exact HK.out | apply KeepBut.set_ | apply keep_drewN | apply keep_drew | apply keep_alloc) | exact HK.out)⟩, ⟨by repeat (first | (with_reducible first | exact HB.out | apply below_alloc | apply pw_below_drewN | apply below_drew1 | refine below_set ?_ (IsS76.ge HI0.out)) | exact HB.out)⟩⟩
            · rw [if_neg c9] at H
              have c9b0 : (t116 == 3) = false := beq_eq_false_iff_ne.mpr c9
              have c9b1 : (t116 != 3) = true := bne_iff_ne.mpr c9
              by_cases c21 : 0 ≤ s0_1
              · rw [if_pos c21] at H
                have c21b0 := eq_true c21
                have c21b1 : decide (0 ≤ s0_1) = true := decide_eq_true c21
                clear c21
                by_cases c22 : s0_1 ≤ x5_1
                · rw [if_pos c22] at H
                  have c22b0 := eq_true c22
                  have c22b1 : decide (s0_1 ≤ x5_1) = true := decide_eq_true c22
                  clear c22
                  by_cases c23 : x5_1 ≤ (s0_0.size : Int)
                  · rw [if_pos c23] at H
                    have c23b0 := eq_true c23
                    have c23b1 : decide (x5_1 ≤ (s0_0.size : Int)) = true := decide_eq_true c23
                    clear c23
                    simp only [Option.some.injEq, Prod.mk.injEq] at H
                    obtain ⟨rfl, rfl, rfl⟩ := H
                    obtain ⟨HGz24, hgz24⟩ := HI0.out
                    have hcz24_0 := cellS76_0 HGz24
                    have hcz24_1 := cellS76_1 HGz24
                    have hfz24_0 := blk_frozen HGz24 0
                    have hfz24_1 := blk_frozen HGz24 1
                    clear HGz24 hgz24
                    have p6 : 0 ≤ (x5_1 : Int) := of_decide_eq_true (by first | (with_reducible assumption) | assumption)
                    have q6 : x5_1 < (s0_0.size : Int) := of_decide_eq_true (by first | (with_reducible assumption) | assumption)
                    have hx6 := bt_at s0_0 x5_1
                    replace p6 := eq_true p6
                    replace q6 := eq_true q6
                    go_wp2_with (first | (go_at_call 69; (with_reducible refine (relation_kind.calls k1 (bt s0_0 x5_1) t116 _ A7.out).mono ?_); rintro e w' ⟨rfl, ⟨nd, rfl⟩⟩; (try first | exact ⟨rfl, _, World.drewN_drewN _ _ _⟩ | exact ⟨rfl, _, Eq.trans (World.drewN_drewN _ _ _) (congrArg (World.drewN _) (Nat.add_assoc _ _ _))⟩)))
                    repeat (go_quiet (first | (go_at_call 69; (with_reducible refine (relation_kind.calls k1 (bt s0_0 x5_1) t116 _ A7.out).mono ?_); rintro e w' ⟨rfl, ⟨nd, rfl⟩⟩; (try first | exact ⟨rfl, _, World.drewN_drewN _ _ _⟩ | exact ⟨rfl, _, Eq.trans (World.drewN_drewN _ _ _) (congrArg (World.drewN _) (Nat.add_assoc _ _ _))⟩))); try go_wp2_with (first | (go_at_call 69; (with_reducible refine (relation_kind.calls k1 (bt s0_0 x5_1) t116 _ A7.out).mono ?_); rintro e w' ⟨rfl, ⟨nd, rfl⟩⟩; (try first | exact ⟨rfl, _, World.drewN_drewN _ _ _⟩ | exact ⟨rfl, _, Eq.trans (World.drewN_drewN _ _ _) (congrArg (World.drewN _) (Nat.add_assoc _ _ _))⟩))))
                    go_ret
                    exact ⟨by first | rfl | (simp [errW_none, errW_some] <;> rfl) | (simp [*, errW_none, errW_some] <;> rfl) | (simp [errW_none, errW_some, Go.Proofs.YtphabealejpfnaaDoor.listNe]; done), by repeat (first | (with_reducible first | exact HI0.out | apply IsS76.alloc | apply IsS76.drewN | apply IsS76.drew | apply IsS76.set_0 | apply IsS76.set_1) | exact HI0.out), by repeat (first | (with_reducible first | exact HB.out | apply below_alloc | apply pw_below_drewN | apply below_drew1 | refine below_set ?_ (IsS76.ge HI0.out)) | exact HB.out), by repeat (first | (with_reducible first | exact HK.out | apply KeepBut.set_ | apply keep_drewN | apply keep_drew | apply keep_alloc) | exact HK.out)⟩
                  · rw [if_neg c23] at H
                    exact absurd H (by simp)
                · rw [if_neg c22] at H
                  exact absurd H (by simp)
              · rw [if_neg c21] at H
                exact absurd H (by simp)
          · replace c8 := Bool.eq_false_iff.mpr c8
            subst c8
            have H1 : (if t116 = 1 then (if 0 ≤ s0_1 then (if s0_1 ≤ x5_1 then (if x5_1 ≤ (s0_0.size : Int) then (some (s0_0.extract (s0_1 : Int).toNat (x5_1 : Int).toNat, s0_0, s0_1)) else (none)) else (none)) else (none)) else (if t116 = 2 then (if 0 ≤ s0_1 then (if s0_1 ≤ x5_1 then (if x5_1 ≤ (s0_0.size : Int) then (some (s0_0.extract (s0_1 : Int).toNat (x5_1 : Int).toNat, s0_0, s0_1)) else (none)) else (none)) else (none)) else (relation_reader_run.l0 k1 false (wrap64 (x5_1 + 1)) s0_0 s0_1))) = some (r1, r2, r3) := by rw [if_neg (show ¬ (false = true) by decide)] at H; exact H
            clear H
            have H := H1
            clear H1
            by_cases c25 : t116 = 1
            · rw [if_pos c25] at H
              have c25b0 : (t116 == 1) = true := beq_iff_eq.mpr c25
              have c25b1 : (t116 != 1) = false := bne_eq_false_iff_eq.mpr c25
              clear c25
              by_cases c26 : 0 ≤ s0_1
              · rw [if_pos c26] at H
                have c26b0 := eq_true c26
                have c26b1 : decide (0 ≤ s0_1) = true := decide_eq_true c26
                clear c26
                by_cases c27 : s0_1 ≤ x5_1
                · rw [if_pos c27] at H
                  have c27b0 := eq_true c27
                  have c27b1 : decide (s0_1 ≤ x5_1) = true := decide_eq_true c27
                  clear c27
                  by_cases c28 : x5_1 ≤ (s0_0.size : Int)
                  · rw [if_pos c28] at H
                    have c28b0 := eq_true c28
                    have c28b1 : decide (x5_1 ≤ (s0_0.size : Int)) = true := decide_eq_true c28
                    clear c28
                    simp only [Option.some.injEq, Prod.mk.injEq] at H
                    obtain ⟨rfl, rfl, rfl⟩ := H
                    obtain ⟨HGz29, hgz29⟩ := HI0.out
                    have hcz29_0 := cellS76_0 HGz29
                    have hcz29_1 := cellS76_1 HGz29
                    have hfz29_0 := blk_frozen HGz29 0
                    have hfz29_1 := blk_frozen HGz29 1
                    clear HGz29 hgz29
                    have p6 : 0 ≤ (x5_1 : Int) := of_decide_eq_true (by first | (with_reducible assumption) | assumption)
                    have q6 : x5_1 < (s0_0.size : Int) := of_decide_eq_true (by first | (with_reducible assumption) | assumption)
                    have hx6 := bt_at s0_0 x5_1
                    replace p6 := eq_true p6
                    replace q6 := eq_true q6
                    go_wp2_with (first | (go_at_call 69; (with_reducible refine (relation_kind.calls k1 (bt s0_0 x5_1) t116 _ A7.out).mono ?_); rintro e w' ⟨rfl, ⟨nd, rfl⟩⟩; (try first | exact ⟨rfl, _, World.drewN_drewN _ _ _⟩ | exact ⟨rfl, _, Eq.trans (World.drewN_drewN _ _ _) (congrArg (World.drewN _) (Nat.add_assoc _ _ _))⟩)))
                    repeat (go_quiet (first | (go_at_call 69; (with_reducible refine (relation_kind.calls k1 (bt s0_0 x5_1) t116 _ A7.out).mono ?_); rintro e w' ⟨rfl, ⟨nd, rfl⟩⟩; (try first | exact ⟨rfl, _, World.drewN_drewN _ _ _⟩ | exact ⟨rfl, _, Eq.trans (World.drewN_drewN _ _ _) (congrArg (World.drewN _) (Nat.add_assoc _ _ _))⟩))); try go_wp2_with (first | (go_at_call 69; (with_reducible refine (relation_kind.calls k1 (bt s0_0 x5_1) t116 _ A7.out).mono ?_); rintro e w' ⟨rfl, ⟨nd, rfl⟩⟩; (try first | exact ⟨rfl, _, World.drewN_drewN _ _ _⟩ | exact ⟨rfl, _, Eq.trans (World.drewN_drewN _ _ _) (congrArg (World.drewN _) (Nat.add_assoc _ _ _))⟩))))
                    go_ret
                    exact ⟨by first | rfl | (simp [errW_none, errW_some] <;> rfl) | (simp [*, errW_none, errW_some] <;> rfl) | (simp [errW_none, errW_some, Go.Proofs.YtphabealejpfnaaDoor.listNe]; done), by repeat (first | (with_reducible first | exact HI0.out | apply IsS76.alloc | apply IsS76.drewN | apply IsS76.drew | apply IsS76.set_0 | apply IsS76.set_1) | exact HI0.out), by repeat (first | (with_reducible first | exact HB.out | apply below_alloc | apply pw_below_drewN | apply below_drew1 | refine below_set ?_ (IsS76.ge HI0.out)) | exact HB.out), by repeat (first | (with_reducible first | exact HK.out | apply KeepBut.set_ | apply keep_drewN | apply keep_drew | apply keep_alloc) | exact HK.out)⟩
                  · rw [if_neg c28] at H
                    exact absurd H (by simp)
                · rw [if_neg c27] at H
                  exact absurd H (by simp)
              · rw [if_neg c26] at H
                exact absurd H (by simp)
            · rw [if_neg c25] at H
              have c25b0 : (t116 == 1) = false := beq_eq_false_iff_ne.mpr c25
              have c25b1 : (t116 != 1) = true := bne_iff_ne.mpr c25
              by_cases c30 : t116 = 2
              · rw [if_pos c30] at H
                have c30b0 : (t116 == 2) = true := beq_iff_eq.mpr c30
                have c30b1 : (t116 != 2) = false := bne_eq_false_iff_eq.mpr c30
                clear c30
                by_cases c31 : 0 ≤ s0_1
                · rw [if_pos c31] at H
                  have c31b0 := eq_true c31
                  have c31b1 : decide (0 ≤ s0_1) = true := decide_eq_true c31
                  clear c31
                  by_cases c32 : s0_1 ≤ x5_1
                  · rw [if_pos c32] at H
                    have c32b0 := eq_true c32
                    have c32b1 : decide (s0_1 ≤ x5_1) = true := decide_eq_true c32
                    clear c32
                    by_cases c33 : x5_1 ≤ (s0_0.size : Int)
                    · rw [if_pos c33] at H
                      have c33b0 := eq_true c33
                      have c33b1 : decide (x5_1 ≤ (s0_0.size : Int)) = true := decide_eq_true c33
                      clear c33
                      simp only [Option.some.injEq, Prod.mk.injEq] at H
                      obtain ⟨rfl, rfl, rfl⟩ := H
                      obtain ⟨HGz34, hgz34⟩ := HI0.out
                      have hcz34_0 := cellS76_0 HGz34
                      have hcz34_1 := cellS76_1 HGz34
                      have hfz34_0 := blk_frozen HGz34 0
                      have hfz34_1 := blk_frozen HGz34 1
                      clear HGz34 hgz34
                      have p6 : 0 ≤ (x5_1 : Int) := of_decide_eq_true (by first | (with_reducible assumption) | assumption)
                      have q6 : x5_1 < (s0_0.size : Int) := of_decide_eq_true (by first | (with_reducible assumption) | assumption)
                      have hx6 := bt_at s0_0 x5_1
                      replace p6 := eq_true p6
                      replace q6 := eq_true q6
                      go_wp2_with (first | (go_at_call 69; (with_reducible refine (relation_kind.calls k1 (bt s0_0 x5_1) t116 _ A7.out).mono ?_); rintro e w' ⟨rfl, ⟨nd, rfl⟩⟩; (try first | exact ⟨rfl, _, World.drewN_drewN _ _ _⟩ | exact ⟨rfl, _, Eq.trans (World.drewN_drewN _ _ _) (congrArg (World.drewN _) (Nat.add_assoc _ _ _))⟩)))
                      repeat (go_quiet (first | (go_at_call 69; (with_reducible refine (relation_kind.calls k1 (bt s0_0 x5_1) t116 _ A7.out).mono ?_); rintro e w' ⟨rfl, ⟨nd, rfl⟩⟩; (try first | exact ⟨rfl, _, World.drewN_drewN _ _ _⟩ | exact ⟨rfl, _, Eq.trans (World.drewN_drewN _ _ _) (congrArg (World.drewN _) (Nat.add_assoc _ _ _))⟩))); try go_wp2_with (first | (go_at_call 69; (with_reducible refine (relation_kind.calls k1 (bt s0_0 x5_1) t116 _ A7.out).mono ?_); rintro e w' ⟨rfl, ⟨nd, rfl⟩⟩; (try first | exact ⟨rfl, _, World.drewN_drewN _ _ _⟩ | exact ⟨rfl, _, Eq.trans (World.drewN_drewN _ _ _) (congrArg (World.drewN _) (Nat.add_assoc _ _ _))⟩))))
                      go_ret
                      exact ⟨by first | rfl | (simp [errW_none, errW_some] <;> rfl) | (simp [*, errW_none, errW_some] <;> rfl) | (simp [errW_none, errW_some, Go.Proofs.YtphabealejpfnaaDoor.listNe]; done), by repeat (first | (with_reducible first | exact HI0.out | apply IsS76.alloc | apply IsS76.drewN | apply IsS76.drew | apply IsS76.set_0 | apply IsS76.set_1) | exact HI0.out), by repeat (first | (with_reducible first | exact HB.out | apply below_alloc | apply pw_below_drewN | apply below_drew1 | refine below_set ?_ (IsS76.ge HI0.out)) | exact HB.out), by repeat (first | (with_reducible first | exact HK.out | apply KeepBut.set_ | apply keep_drewN | apply keep_drew | apply keep_alloc) | exact HK.out)⟩
                    · rw [if_neg c33] at H
                      exact absurd H (by simp)
                  · rw [if_neg c32] at H
                    exact absurd H (by simp)
                · rw [if_neg c31] at H
                  exact absurd H (by simp)
              · rw [if_neg c30] at H
                have c30b0 : (t116 == 2) = false := beq_eq_false_iff_ne.mpr c30
                have c30b1 : (t116 != 2) = true := bne_iff_ne.mpr c30
                have H' := Aside0.mk H
                clear H
                obtain ⟨HGz35, hgz35⟩ := HI0.out
                have hcz35_0 := cellS76_0 HGz35
                have hcz35_1 := cellS76_1 HGz35
                have hfz35_0 := blk_frozen HGz35 0
                have hfz35_1 := blk_frozen HGz35 1
                clear HGz35 hgz35
                have p6 : 0 ≤ (x5_1 : Int) := of_decide_eq_true (by first | (with_reducible assumption) | assumption)
                have q6 : x5_1 < (s0_0.size : Int) := of_decide_eq_true (by first | (with_reducible assumption) | assumption)
                have hx6 := bt_at s0_0 x5_1
                replace p6 := eq_true p6
                replace q6 := eq_true q6
                go_wp2_with (first | (go_at_call 69; (with_reducible refine (relation_kind.calls k1 (bt s0_0 x5_1) t116 _ A7.out).mono ?_); rintro e w' ⟨rfl, ⟨nd, rfl⟩⟩; (try first | exact ⟨rfl, _, World.drewN_drewN _ _ _⟩ | exact ⟨rfl, _, Eq.trans (World.drewN_drewN _ _ _) (congrArg (World.drewN _) (Nat.add_assoc _ _ _))⟩)))
                repeat (go_quiet (first | (go_at_call 69; (with_reducible refine (relation_kind.calls k1 (bt s0_0 x5_1) t116 _ A7.out).mono ?_); rintro e w' ⟨rfl, ⟨nd, rfl⟩⟩; (try first | exact ⟨rfl, _, World.drewN_drewN _ _ _⟩ | exact ⟨rfl, _, Eq.trans (World.drewN_drewN _ _ _) (congrArg (World.drewN _) (Nat.add_assoc _ _ _))⟩))); try go_wp2_with (first | (go_at_call 69; (with_reducible refine (relation_kind.calls k1 (bt s0_0 x5_1) t116 _ A7.out).mono ?_); rintro e w' ⟨rfl, ⟨nd, rfl⟩⟩; (try first | exact ⟨rfl, _, World.drewN_drewN _ _ _⟩ | exact ⟨rfl, _, Eq.trans (World.drewN_drewN _ _ _) (congrArg (World.drewN _) (Nat.add_assoc _ _ _))⟩))))
                go_roundg k1
                case measure => have := HK1.out; omega
                case rel => exact ⟨(wrap64 (x5_1 + 1)), (by first | rfl | (simp; done) | (simp [*]; done)), H', ⟨by have := HK1.out; omega⟩, ⟨by repeat (first | (with_reducible first | exact HI0.out | apply IsS76.alloc | apply IsS76.drewN | apply IsS76.drew | apply IsS76.set_0 | apply IsS76.set_1) | exact HI0.out)⟩, ⟨by repeat (first | (with_reducible first | exact HK.out | apply KeepBut.set_ | apply keep_drewN | apply keep_drew | apply keep_alloc) | exact HK.out)⟩, ⟨by repeat (first | (with_reducible first | exact HB.out | apply below_alloc | apply pw_below_drewN | apply below_drew1 | refine below_set ?_ (IsS76.ge HI0.out)) | exact HB.out)⟩⟩
        · rw [if_neg c5] at H
          exact absurd H (by simp)
      · rw [if_neg c4] at H
        have c4b0 : decide (x5_1 < (s0_0.size : Int)) = false := decide_eq_false c4
        clear c4
        by_cases c36 : 0 ≤ s0_1
        · rw [if_pos c36] at H
          have c36b0 := eq_true c36
          have c36b1 : decide (0 ≤ s0_1) = true := decide_eq_true c36
          clear c36
          by_cases c37 : s0_1 ≤ x5_1
          · rw [if_pos c37] at H
            have c37b0 := eq_true c37
            have c37b1 : decide (s0_1 ≤ x5_1) = true := decide_eq_true c37
            clear c37
            by_cases c38 : x5_1 ≤ (s0_0.size : Int)
            · rw [if_pos c38] at H
              have c38b0 := eq_true c38
              have c38b1 : decide (x5_1 ≤ (s0_0.size : Int)) = true := decide_eq_true c38
              clear c38
              simp only [Option.some.injEq, Prod.mk.injEq] at H
              obtain ⟨rfl, rfl, rfl⟩ := H
              obtain ⟨HGz39, hgz39⟩ := HI0.out
              have hcz39_0 := cellS76_0 HGz39
              have hcz39_1 := cellS76_1 HGz39
              have hfz39_0 := blk_frozen HGz39 0
              have hfz39_1 := blk_frozen HGz39 1
              clear HGz39 hgz39
              go_wp2
              repeat (go_quiet (fail); try go_wp2)
              go_ret
              exact ⟨by first | rfl | (simp [errW_none, errW_some] <;> rfl) | (simp [*, errW_none, errW_some] <;> rfl) | (simp [errW_none, errW_some, Go.Proofs.YtphabealejpfnaaDoor.listNe]; done), by repeat (first | (with_reducible first | exact HI0.out | apply IsS76.alloc | apply IsS76.drewN | apply IsS76.drew | apply IsS76.set_0 | apply IsS76.set_1) | exact HI0.out), by repeat (first | (with_reducible first | exact HB.out | apply below_alloc | apply pw_below_drewN | apply below_drew1 | refine below_set ?_ (IsS76.ge HI0.out)) | exact HB.out), by repeat (first | (with_reducible first | exact HK.out | apply KeepBut.set_ | apply keep_drewN | apply keep_drew | apply keep_alloc) | exact HK.out)⟩
            · rw [if_neg c38] at H
              exact absurd H (by simp)
          · rw [if_neg c37] at H
            exact absurd H (by simp)
        · rw [if_neg c36] at H
          exact absurd H (by simp)

/-! ### relation_reader_relation: function 56 -/
/-- Which operator a text is; 0: none. -/
def opOf (m : ByteArray) : Int := if m.toList = [60, 60] then 1 else if m.toList = [60, 61] then 2 else if m.toList = [61] then 3 else if m.toList = [62, 61] then 4 else if m.toList = [62, 62] then 5 else 0
def opTo (m : ByteArray) (z : Int) : Int := if opOf m ≤ z then opOf m else 0
theorem opOf_bd (m : ByteArray) : 0 ≤ opOf m ∧ opOf m ≤ 5 := by
  unfold opOf
  repeat' split
  all_goals omega
theorem opIdxR0 (w : World) : (Instr.index 66 (.agg #[.int .i64 1, .string ⟨#[60, 60]⟩, .int .i64 2, .string ⟨#[60, 61]⟩, .int .i64 3, .string ⟨#[61]⟩, .int .i64 4, .string ⟨#[62, 61]⟩, .int .i64 5, .string ⟨#[62, 62]⟩]) (.int .i64 0)).run Tryd.prog w = .ok (.agg #[.int .i64 1, .string ⟨#[60, 60]⟩]) w := by kernel_rfl
theorem opIdxR1 (w : World) : (Instr.index 66 (.agg #[.int .i64 1, .string ⟨#[60, 60]⟩, .int .i64 2, .string ⟨#[60, 61]⟩, .int .i64 3, .string ⟨#[61]⟩, .int .i64 4, .string ⟨#[62, 61]⟩, .int .i64 5, .string ⟨#[62, 62]⟩]) (.int .i64 1)).run Tryd.prog w = .ok (.agg #[.int .i64 2, .string ⟨#[60, 61]⟩]) w := by kernel_rfl
theorem opIdxR2 (w : World) : (Instr.index 66 (.agg #[.int .i64 1, .string ⟨#[60, 60]⟩, .int .i64 2, .string ⟨#[60, 61]⟩, .int .i64 3, .string ⟨#[61]⟩, .int .i64 4, .string ⟨#[62, 61]⟩, .int .i64 5, .string ⟨#[62, 62]⟩]) (.int .i64 2)).run Tryd.prog w = .ok (.agg #[.int .i64 3, .string ⟨#[61]⟩]) w := by kernel_rfl
theorem opIdxR3 (w : World) : (Instr.index 66 (.agg #[.int .i64 1, .string ⟨#[60, 60]⟩, .int .i64 2, .string ⟨#[60, 61]⟩, .int .i64 3, .string ⟨#[61]⟩, .int .i64 4, .string ⟨#[62, 61]⟩, .int .i64 5, .string ⟨#[62, 62]⟩]) (.int .i64 3)).run Tryd.prog w = .ok (.agg #[.int .i64 4, .string ⟨#[62, 61]⟩]) w := by kernel_rfl
theorem opIdxR4 (w : World) : (Instr.index 66 (.agg #[.int .i64 1, .string ⟨#[60, 60]⟩, .int .i64 2, .string ⟨#[60, 61]⟩, .int .i64 3, .string ⟨#[61]⟩, .int .i64 4, .string ⟨#[62, 61]⟩, .int .i64 5, .string ⟨#[62, 62]⟩]) (.int .i64 4)).run Tryd.prog w = .ok (.agg #[.int .i64 5, .string ⟨#[62, 62]⟩]) w := by kernel_rfl
theorem opOf_iff (m : ByteArray) : (opOf m = 1 ↔ m.toList = [60, 60]) ∧ (opOf m = 2 ↔ m.toList = [60, 61]) ∧ (opOf m = 3 ↔ m.toList = [61]) ∧ (opOf m = 4 ↔ m.toList = [62, 61]) ∧ (opOf m = 5 ↔ m.toList = [62, 62]) := by
  unfold opOf
  repeat' split
  all_goals simp_all
theorem opTo_zero (m : ByteArray) : opTo m 0 = 0 := by
  have := opOf_bd m
  unfold opTo
  split <;> omega
theorem opTo_five (m : ByteArray) : opTo m 5 = opOf m := if_pos (opOf_bd m).2
theorem opTo_hit (m : ByteArray) (z : Int) (h : opOf m = z) : opTo m z = z := by
  unfold opTo
  rw [if_pos (by omega), h]
theorem opTo_miss (m : ByteArray) (z : Int) (h : ¬ opOf m = z + 1) : opTo m (z + 1) = opTo m z := by
  unfold opTo
  by_cases h2 : opOf m ≤ z
  · rw [if_pos h2, if_pos (by omega)]
  · rw [if_neg h2, if_neg (by omega)]
theorem below_alloc' {w0 w : World} (h : Below w0.heap.size w0 w) (o : Obj) : Below w0.heap.size w0 (w.alloc o) := h.alloc h.size o
theorem below_setN {w0 w : World} {j : Nat} {v : Value} {b : Nat} (h : Below w0.heap.size w0 w) (hb : w0.heap.size ≤ b) : Below w0.heap.size w0 (w.setCell ⟨b, j, none⟩ v) := h.setCell hb _
def noRel (e : Int) (s : ByteArray) (a : Int) : ByteArray × Int × ByteArray × Int × ByteArray × Int := (⟨#[]⟩, 0, ⟨#[]⟩, e, s, a)
def relation_reader_relation.f (k : Nat) (s0_0 : ByteArray) (s0_1 : Int) : Option (ByteArray × Int × ByteArray × Int × ByteArray × Int) :=
  (relation_reader_run.f k s0_0 s0_1 false).bind fun x1 => if x1.1.toList = [] then some (noRel 220 x1.2.1 x1.2.2) else
  (relation_Name.f k x1.1).bind fun nm => if nm = false then some (noRel 230 x1.2.1 x1.2.2) else
  (relation_reader_pass.f k x1.2.1 x1.2.2 x1.1.size).bind fun x2 => (relation_reader_takes.f k x2.1 x2.2 40).bind fun x3 => if x3.1 = false then some (x1.1, 0, ⟨#[]⟩, 0, x3.2.1, x3.2.2) else
  (relation_reader_run.f k x3.2.1 x3.2.2 true).bind fun x4 => if opOf x4.1 = 0 then some (noRel 220 x4.2.1 x4.2.2) else
  (relation_reader_pass.f k x4.2.1 x4.2.2 x4.1.size).bind fun x5 => (relation_reader_run.f k x5.1 x5.2 false).bind fun x6 => if x6.1.toList = [] then some (noRel 220 x6.2.1 x6.2.2) else
  (version_Legal.f k x6.1).bind fun lg => if lg = false then some (noRel 200 x6.2.1 x6.2.2) else
  (relation_reader_pass.f k x6.2.1 x6.2.2 x6.1.size).bind fun x7 => (relation_reader_takes.f k x7.1 x7.2 41).bind fun x8 => if x8.1 = false then some (noRel 220 x8.2.1 x8.2.2) else some (x1.1, opOf x4.1, x6.1, 0, x8.2.1, x8.2.2)
theorem relation_reader_relation.mono : ∀ a0 a1 k, LeO (relation_reader_relation.f k a0 a1) (relation_reader_relation.f (k + 1) a0 a1) := by
  intro a0 a1 k
  unfold relation_reader_relation.f
  repeat' first
      | (with_reducible exact relation_reader_run.mono _ _ _ _)
      | (with_reducible exact relation_Name.mono _ _)
      | (with_reducible exact relation_reader_pass.mono _ _ _ _)
      | (with_reducible exact relation_reader_takes.mono _ _ _ _)
      | (with_reducible exact version_Legal.mono _ _)
      | (with_reducible exact LeO.refl _)
      | (with_reducible refine LeO.ite ?_ ?_)
      | (with_reducible refine LeO.bind ?_ (fun _ => ?_))
set_option maxHeartbeats 8000000 in
set_option maxRecDepth 1000000 in
theorem relation_reader_relation.calls (k : Nat) (g : Nat) (s0_0 : ByteArray) (s0_1 : Int) (r1 : ByteArray) (r2 : Int) (r3 : ByteArray) (r4 : Int) (r5 : ByteArray) (r6 : Int) (w0 w : World) (hI : IsS76 w0 w g s0_0 s0_1) (hB : Below w0.heap.size w0 w) (hG : GG w0) (h : relation_reader_relation.f k s0_0 s0_1 = some (r1, r2, r3, r4, r5, r6)) :
    Calls Tryd.prog 56 #[.pointer (some ⟨g, 0, none⟩)] w fun e w' => e = .returned (.tuple #[.agg #[.string r1, .int .i64 r2, .string r3], .int .i64 r4]) ∧ IsS76 w0 w' g r5 r6 ∧ Below w0.heap.size w0 w' ∧ KeepBut w w' g none := by
  unfold relation_reader_relation.f at h
  have hu23 := Tryd.underlying23
  have hu65 := Tryd.underlying65
  have hlt := hI.lt
  have Hlt := Lib.hid hlt
  have Hge := Lib.hid hI.ge
  have HI0 := Lib.hid (hI.alloc (.cells #[.string ⟨#[]⟩, .int .i64 0, .string ⟨#[]⟩] 23 (0, 0)))
  have HB0 := Lib.hid (below_alloc' hB (.cells #[.string ⟨#[]⟩, .int .i64 0, .string ⟨#[]⟩] 23 (0, 0)))
  have HK0 := Lib.hid (keep_alloc (KeepBut.refl w g none) (.cells #[.string ⟨#[]⟩, .int .i64 0, .string ⟨#[]⟩] 23 (0, 0)))
  have HR0 := Lib.hid (blk_new w (.cells #[.string ⟨#[]⟩, .int .i64 0, .string ⟨#[]⟩] 23 (0, 0)))
  have HG := Lib.hid hG
  clear hI hB hG hlt
  have Hbw : Hid (w0.heap.size ≤ w.heap.size) := Nat.le_of_lt (Nat.lt_of_le_of_lt Hge.out Hlt.out)
  replace h := Option.bind_eq_some_iff.mp h
  obtain ⟨⟨v1, s1, a1⟩, h1, h⟩ := h
  have H1 := Lib.hid h1; clear h1
  have H := Lib.hid h; clear h
  go_enter Tryd.func56, Tryd.ntmps56
  go_wp2_with fail
  refine (relation_reader_run.calls _ _ _ _ _ _ _ _ w0 _ HI0.out HB0.out H1.out).mono ?_
  rintro e w1 ⟨rfl, hI, hB, hK⟩
  have HI1 := Lib.hid hI; have HB1 := Lib.hid hB; have HK1 := Lib.hid (KeepBut.trans HK0.out hK (.inl rfl))
  have HR1 := Lib.hid (hK.blk HR0.out (Nat.ne_of_gt Hlt.out) (by simp))
  clear hI hB hK
  by_cases e1 : v1.toList = []
  · have h := H.out
    rw [if_pos e1] at h
    simp only [Option.some.injEq, noRel, Prod.mk.injEq] at h
    obtain ⟨rfl, rfl, rfl, rfl, rfl, rfl⟩ := h
    have e1b : v1.toList.isEmpty = true := by rw [e1]; rfl
    have rc0 := blk_cell HR1.out 0
    have rc1 := blk_cell HR1.out 1
    have rc2 := blk_cell HR1.out 2
    have rz0 := blk_frozen HR1.out 0
    have rz1 := blk_frozen HR1.out 1
    have rz2 := blk_frozen HR1.out 2
    simp only [List.getElem?_toArray, List.getElem?_cons_succ, List.getElem?_cons_zero] at rc0 rc1 rc2
    go_wp2_with fail
    refine bodyPost_ret (results_ct rfl _ _ w.heap.size 23 #[.string ⟨#[]⟩, .int .i64 0, .string ⟨#[]⟩] (0, 0) _ rfl (blk_put (blk_put (blk_put HR1.out 0 _ rfl) 1 _ rfl) 2 _ rfl) Tryd.underlying23 rfl rfl) rfl ⟨rfl, (((HI1.out.far (Nat.ne_of_lt Hlt.out) _).far (Nat.ne_of_lt Hlt.out) _).far (Nat.ne_of_lt Hlt.out) _), below_setN (below_setN (below_setN HB1.out Hbw.out) Hbw.out) Hbw.out, keep_far (keep_far (keep_far HK1.out (Nat.le_refl _) _) (Nat.le_refl _) _) (Nat.le_refl _) _⟩
  have h := H.out
  clear H
  rw [if_neg e1] at h
  have e1b : v1.toList.isEmpty = false := by simpa using e1
  clear e1
  replace h := Option.bind_eq_some_iff.mp h
  obtain ⟨nm, h2, h⟩ := h
  have H2 := Lib.hid h2; clear h2
  have H := Lib.hid h; clear h
  go_wp2_with fail
  refine (relation_Name.calls _ _ _ _ H2.out).mono ?_
  rintro e w2 ⟨rfl, hd⟩
  have Hd := Lib.hid hd; clear hd
  clear e1b
  have HI2 : Hid (IsS76 w0 w2 g s1 a1) := by obtain ⟨nd, rfl⟩ := Hd.out.out; exact HI1.out.drewN nd
  have HB2 : Hid (Below w0.heap.size w0 w2) := by obtain ⟨nd, rfl⟩ := Hd.out.out; exact pw_below_drewN HB1.out nd
  have HK2 : Hid (KeepBut w w2 g none) := by obtain ⟨nd, rfl⟩ := Hd.out.out; exact keep_drewN HK1.out nd
  have HR2 : Hid (w2.heap[w.heap.size]? = some (.cells #[.string ⟨#[]⟩, .int .i64 0, .string ⟨#[]⟩] 23 (0, 0))) := by obtain ⟨nd, rfl⟩ := Hd.out.out; exact blk_drewN HR1.out nd
  cases nm with
  | false =>
    have h := H.out
    rw [if_pos rfl] at h
    simp only [Option.some.injEq, noRel, Prod.mk.injEq] at h
    obtain ⟨rfl, rfl, rfl, rfl, rfl, rfl⟩ := h
    have rc0 := blk_cell HR2.out 0
    have rc1 := blk_cell HR2.out 1
    have rc2 := blk_cell HR2.out 2
    have rz0 := blk_frozen HR2.out 0
    have rz1 := blk_frozen HR2.out 1
    have rz2 := blk_frozen HR2.out 2
    simp only [List.getElem?_toArray, List.getElem?_cons_succ, List.getElem?_cons_zero] at rc0 rc1 rc2
    go_wp2_with fail
    refine bodyPost_ret (results_ct rfl _ _ w.heap.size 23 #[.string ⟨#[]⟩, .int .i64 0, .string ⟨#[]⟩] (0, 0) _ rfl (blk_put (blk_put (blk_put HR2.out 0 _ rfl) 1 _ rfl) 2 _ rfl) Tryd.underlying23 rfl rfl) rfl ⟨rfl, (((HI2.out.far (Nat.ne_of_lt Hlt.out) _).far (Nat.ne_of_lt Hlt.out) _).far (Nat.ne_of_lt Hlt.out) _), below_setN (below_setN (below_setN HB2.out Hbw.out) Hbw.out) Hbw.out, keep_far (keep_far (keep_far HK2.out (Nat.le_refl _) _) (Nat.le_refl _) _) (Nat.le_refl _) _⟩
  | true =>
    have h := H.out
    clear H
    rw [if_neg (by simp)] at h
    replace h := Option.bind_eq_some_iff.mp h
    obtain ⟨⟨s2, a2⟩, h3, h⟩ := h
    have H3 := Lib.hid h3; clear h3
    replace h := Option.bind_eq_some_iff.mp h
    obtain ⟨⟨b3, s3, a3⟩, h4, h⟩ := h
    have H4 := Lib.hid h4; clear h4
    have H := Lib.hid h; clear h
    have HW1 : Hid (w.heap.size < w2.heap.size) := blk_lt HR2.out
    have HNP : Hid (w2.heap.size ≠ g) := Nat.ne_of_gt (Nat.lt_trans Hlt.out HW1.out)
    have HNRP : Hid (w.heap.size ≠ w2.heap.size) := Nat.ne_of_lt HW1.out
    have HBP : Hid (w0.heap.size ≤ w2.heap.size) := Nat.le_trans Hbw.out (Nat.le_of_lt HW1.out)
    have HIa := Lib.hid (HI2.out.alloc (.cells #[.string v1, .int .i64 0, .string ⟨#[]⟩] 23 (0, 0))); have HBa := Lib.hid (below_alloc' HB2.out (.cells #[.string v1, .int .i64 0, .string ⟨#[]⟩] 23 (0, 0))); have HKa := Lib.hid (keep_alloc HK2.out (.cells #[.string v1, .int .i64 0, .string ⟨#[]⟩] 23 (0, 0))); have HRa := Lib.hid (blk_alloc HR2.out (.cells #[.string v1, .int .i64 0, .string ⟨#[]⟩] 23 (0, 0))); have HPa := Lib.hid (blk_new w2 (.cells #[.string v1, .int .i64 0, .string ⟨#[]⟩] 23 (0, 0)))
    go_wp2_with fail
    refine (relation_reader_pass.calls _ _ _ _ _ _ _ w0 _ HIa.out HBa.out H3.out).mono ?_
    rintro e wb ⟨rfl, hI, hB, hK⟩
    have HIb := Lib.hid hI; have HBb := Lib.hid hB; have HKb := Lib.hid (KeepBut.trans HKa.out hK (.inl rfl))
    have HRb := Lib.hid (hK.blk HRa.out (Nat.ne_of_gt Hlt.out) (by simp))
    have HPb := Lib.hid (hK.blk HPa.out HNP.out (by simp))
    clear hI hB hK
    go_wp2_with fail
    refine (relation_reader_takes.calls _ _ _ _ _ _ _ _ w0 _ HIb.out HBb.out H4.out).mono ?_
    rintro e wc ⟨rfl, hI, hB, hK⟩
    have HIc := Lib.hid hI; have HBc := Lib.hid hB; have HKc := Lib.hid (KeepBut.trans HKb.out hK (.inl rfl))
    have HRc := Lib.hid (hK.blk HRb.out (Nat.ne_of_gt Hlt.out) (by simp))
    have HPc := Lib.hid (hK.blk HPb.out HNP.out (by simp))
    clear hI hB hK
    cases b3 with
    | false =>
      have h := H.out
      rw [if_pos rfl] at h
      simp only [Option.some.injEq, Prod.mk.injEq] at h
      obtain ⟨rfl, rfl, rfl, rfl, rfl, rfl⟩ := h
      have rc0 := blk_cell HRc.out 0
      have rc1 := blk_cell HRc.out 1
      have rc2 := blk_cell HRc.out 2
      have rz0 := blk_frozen HRc.out 0
      have rz1 := blk_frozen HRc.out 1
      have rz2 := blk_frozen HRc.out 2
      simp only [List.getElem?_toArray, List.getElem?_cons_succ, List.getElem?_cons_zero] at rc0 rc1 rc2
      have pc0 := blk_cell HPc.out 0
      have pc1 := blk_cell HPc.out 1
      have pc2 := blk_cell HPc.out 2
      simp only [List.getElem?_toArray, List.getElem?_cons_succ, List.getElem?_cons_zero] at pc0 pc1 pc2
      go_wp2_with fail
      refine bodyPost_ret (results_ct rfl _ _ w.heap.size 23 #[.string v1, .int .i64 0, .string ⟨#[]⟩] (0, 0) _ rfl (blk_put (blk_put (blk_put HRc.out 0 _ rfl) 1 _ rfl) 2 _ rfl) Tryd.underlying23 rfl rfl) rfl ⟨rfl, (((HIc.out.far (Nat.ne_of_lt Hlt.out) _).far (Nat.ne_of_lt Hlt.out) _).far (Nat.ne_of_lt Hlt.out) _), below_setN (below_setN (below_setN HBc.out Hbw.out) Hbw.out) Hbw.out, keep_far (keep_far (keep_far HKc.out (Nat.le_refl _) _) (Nat.le_refl _) _) (Nat.le_refl _) _⟩
    | true =>
      have h := H.out
      clear H
      rw [if_neg (by simp)] at h
      replace h := Option.bind_eq_some_iff.mp h
      obtain ⟨⟨m4, s4, a4⟩, h5, h⟩ := h
      have H5 := Lib.hid h5; clear h5
      have H := Lib.hid h; clear h
      go_wp2_with fail
      refine (relation_reader_run.calls _ _ _ _ _ _ _ _ w0 _ HIc.out HBc.out H5.out).mono ?_
      rintro e wd ⟨rfl, hI, hB, hK⟩
      have HId := Lib.hid hI; have HBd := Lib.hid hB; have HKd := Lib.hid (KeepBut.trans HKc.out hK (.inl rfl))
      have HRd := Lib.hid (hK.blk HRc.out (Nat.ne_of_gt Hlt.out) (by simp))
      have HPd := Lib.hid (hK.blk HPc.out HNP.out (by simp))
      clear hI hB hK
      have HGd := Lib.hid (GG.below HG.out HBd.out)
      obtain ⟨tg, fg, hG0⟩ := HGd.out
      have HG0 := Lib.hid hG0; clear hG0
      have i0 := opIdxR0; have i1 := opIdxR1; have i2 := opIdxR2; have i3 := opIdxR3; have i4 := opIdxR4
      go_wp2_with (refine wpList_load_row rfl 66 _ rfl 0 rfl tg _ fg _ HG0.out Tryd.underlying66 rfl (by kernel_rfl) ?_; unfold opCells)
      go_loopw [32] (fun v wr => ∃ z : Int, 0 ≤ z ∧ z ≤ 5 ∧ v = .int .i64 z ∧ Hid (IsS76 w0 wr g s4 a4) ∧ Hid (Below w0.heap.size w0 wr) ∧ Hid (KeepBut w wr g none) ∧ Hid (wr.heap[w.heap.size]? = some (.cells #[.string ⟨#[]⟩, .int .i64 0, .string ⟨#[]⟩] 23 (0, 0))) ∧ Hid (wr.heap[w2.heap.size]? = some (.cells #[.string v1, .int .i64 (opTo m4 z), .string ⟨#[]⟩] 23 (0, 0)))) (fun v _ => (5 - intOf v).toNat)
      case atStart => exact ⟨0, by omega, by omega, rfl, HId.out, HBd.out, HKd.out, HRd.out, by rw [opTo_zero]; exact HPd.out⟩
      case round =>
        obtain ⟨z, z0, z5, rfl, hI, hB, hK, hR, hP⟩ := hrel
        have HIe := Lib.hid hI.out; have HBe := Lib.hid hB.out; have HKe := Lib.hid hK.out; have HRe := Lib.hid hR.out; have HPe := Lib.hid hP.out
        clear hI hB hK hR hP
        have Hz : z = 0 ∨ z = 1 ∨ z = 2 ∨ z = 3 ∨ z = 4 ∨ z = 5 := by omega
        rcases Hz with rfl | rfl | rfl | rfl | rfl | rfl
        case inl =>
          by_cases he : opOf m4 = 1
          · have hl := (opOf_iff m4).1.1 he
            have hb1 : (([60, 60] : List UInt8) == m4.toList) = true := by rw [hl]; rfl
            have hpc : ∀ o, (wr.alloc o).cell? ⟨w2.heap.size, 1, none⟩ = some (.int .i64 (opTo m4 0)) := fun o => blk_cell (blk_alloc HPe.out o) 1
            have hpz : ∀ o, (wr.alloc o).frozen? ⟨w2.heap.size, 1, none⟩ = false := fun o => blk_frozen (blk_alloc HPe.out o) 1
            have Het := Lib.hid (opTo_hit m4 1 he)
            clear hl he
            go_wp2_with fail
            go_roundw
            case rel => exact ⟨1, by omega, by omega, rfl, (HIe.out.alloc _).far (Ne.symm HNP.out) _, below_setN (below_alloc' HBe.out _) HBP.out, keep_far (keep_alloc HKe.out _) (Nat.le_of_lt HW1.out) _, blk_far (blk_alloc HRe.out _) HNRP.out _, by rw [Het.out]; exact blk_put (blk_alloc HPe.out _) 1 _ rfl⟩
            case measure => simp [intOf]
          · have hl : ¬ m4.toList = [60, 60] := fun q => he ((opOf_iff m4).1.2 q)
            have hb1 : (([60, 60] : List UInt8) == m4.toList) = false := by rw [beq_eq_false_iff_ne]; exact fun q => hl q.symm
            have Het : Hid (opTo m4 1 = opTo m4 0) := opTo_miss m4 0 he
            clear hl he
            go_wp2_with fail
            go_roundw
            case rel => exact ⟨1, by omega, by omega, rfl, HIe.out.alloc _, below_alloc' HBe.out _, keep_alloc HKe.out _, blk_alloc HRe.out _, by rw [Het.out]; exact blk_alloc HPe.out _⟩
            case measure => simp [intOf]
        case inr.inl =>
          by_cases he : opOf m4 = 2
          · have hl := (opOf_iff m4).2.1.1 he
            have hb1 : (([60, 61] : List UInt8) == m4.toList) = true := by rw [hl]; rfl
            have hpc : ∀ o, (wr.alloc o).cell? ⟨w2.heap.size, 1, none⟩ = some (.int .i64 (opTo m4 1)) := fun o => blk_cell (blk_alloc HPe.out o) 1
            have hpz : ∀ o, (wr.alloc o).frozen? ⟨w2.heap.size, 1, none⟩ = false := fun o => blk_frozen (blk_alloc HPe.out o) 1
            have Het := Lib.hid (opTo_hit m4 2 he)
            clear hl he
            go_wp2_with fail
            go_roundw
            case rel => exact ⟨2, by omega, by omega, rfl, (HIe.out.alloc _).far (Ne.symm HNP.out) _, below_setN (below_alloc' HBe.out _) HBP.out, keep_far (keep_alloc HKe.out _) (Nat.le_of_lt HW1.out) _, blk_far (blk_alloc HRe.out _) HNRP.out _, by rw [Het.out]; exact blk_put (blk_alloc HPe.out _) 1 _ rfl⟩
            case measure => simp [intOf]
          · have hl : ¬ m4.toList = [60, 61] := fun q => he ((opOf_iff m4).2.1.2 q)
            have hb1 : (([60, 61] : List UInt8) == m4.toList) = false := by rw [beq_eq_false_iff_ne]; exact fun q => hl q.symm
            have Het : Hid (opTo m4 2 = opTo m4 1) := opTo_miss m4 1 he
            clear hl he
            go_wp2_with fail
            go_roundw
            case rel => exact ⟨2, by omega, by omega, rfl, HIe.out.alloc _, below_alloc' HBe.out _, keep_alloc HKe.out _, blk_alloc HRe.out _, by rw [Het.out]; exact blk_alloc HPe.out _⟩
            case measure => simp [intOf]
        case inr.inr.inl =>
          by_cases he : opOf m4 = 3
          · have hl := (opOf_iff m4).2.2.1.1 he
            have hb1 : (([61] : List UInt8) == m4.toList) = true := by rw [hl]; rfl
            have hpc : ∀ o, (wr.alloc o).cell? ⟨w2.heap.size, 1, none⟩ = some (.int .i64 (opTo m4 2)) := fun o => blk_cell (blk_alloc HPe.out o) 1
            have hpz : ∀ o, (wr.alloc o).frozen? ⟨w2.heap.size, 1, none⟩ = false := fun o => blk_frozen (blk_alloc HPe.out o) 1
            have Het := Lib.hid (opTo_hit m4 3 he)
            clear hl he
            go_wp2_with fail
            go_roundw
            case rel => exact ⟨3, by omega, by omega, rfl, (HIe.out.alloc _).far (Ne.symm HNP.out) _, below_setN (below_alloc' HBe.out _) HBP.out, keep_far (keep_alloc HKe.out _) (Nat.le_of_lt HW1.out) _, blk_far (blk_alloc HRe.out _) HNRP.out _, by rw [Het.out]; exact blk_put (blk_alloc HPe.out _) 1 _ rfl⟩
            case measure => simp [intOf]
          · have hl : ¬ m4.toList = [61] := fun q => he ((opOf_iff m4).2.2.1.2 q)
            have hb1 : (([61] : List UInt8) == m4.toList) = false := by rw [beq_eq_false_iff_ne]; exact fun q => hl q.symm
            have Het : Hid (opTo m4 3 = opTo m4 2) := opTo_miss m4 2 he
            clear hl he
            go_wp2_with fail
            go_roundw
            case rel => exact ⟨3, by omega, by omega, rfl, HIe.out.alloc _, below_alloc' HBe.out _, keep_alloc HKe.out _, blk_alloc HRe.out _, by rw [Het.out]; exact blk_alloc HPe.out _⟩
            case measure => simp [intOf]
        case inr.inr.inr.inl =>
          by_cases he : opOf m4 = 4
          · have hl := (opOf_iff m4).2.2.2.1.1 he
            have hb1 : (([62, 61] : List UInt8) == m4.toList) = true := by rw [hl]; rfl
            have hpc : ∀ o, (wr.alloc o).cell? ⟨w2.heap.size, 1, none⟩ = some (.int .i64 (opTo m4 3)) := fun o => blk_cell (blk_alloc HPe.out o) 1
            have hpz : ∀ o, (wr.alloc o).frozen? ⟨w2.heap.size, 1, none⟩ = false := fun o => blk_frozen (blk_alloc HPe.out o) 1
            have Het := Lib.hid (opTo_hit m4 4 he)
            clear hl he
            go_wp2_with fail
            go_roundw
            case rel => exact ⟨4, by omega, by omega, rfl, (HIe.out.alloc _).far (Ne.symm HNP.out) _, below_setN (below_alloc' HBe.out _) HBP.out, keep_far (keep_alloc HKe.out _) (Nat.le_of_lt HW1.out) _, blk_far (blk_alloc HRe.out _) HNRP.out _, by rw [Het.out]; exact blk_put (blk_alloc HPe.out _) 1 _ rfl⟩
            case measure => simp [intOf]
          · have hl : ¬ m4.toList = [62, 61] := fun q => he ((opOf_iff m4).2.2.2.1.2 q)
            have hb1 : (([62, 61] : List UInt8) == m4.toList) = false := by rw [beq_eq_false_iff_ne]; exact fun q => hl q.symm
            have Het : Hid (opTo m4 4 = opTo m4 3) := opTo_miss m4 3 he
            clear hl he
            go_wp2_with fail
            go_roundw
            case rel => exact ⟨4, by omega, by omega, rfl, HIe.out.alloc _, below_alloc' HBe.out _, keep_alloc HKe.out _, blk_alloc HRe.out _, by rw [Het.out]; exact blk_alloc HPe.out _⟩
            case measure => simp [intOf]
        case inr.inr.inr.inr.inl =>
          by_cases he : opOf m4 = 5
          · have hl := (opOf_iff m4).2.2.2.2.1 he
            have hb1 : (([62, 62] : List UInt8) == m4.toList) = true := by rw [hl]; rfl
            have hpc : ∀ o, (wr.alloc o).cell? ⟨w2.heap.size, 1, none⟩ = some (.int .i64 (opTo m4 4)) := fun o => blk_cell (blk_alloc HPe.out o) 1
            have hpz : ∀ o, (wr.alloc o).frozen? ⟨w2.heap.size, 1, none⟩ = false := fun o => blk_frozen (blk_alloc HPe.out o) 1
            have Het := Lib.hid (opTo_hit m4 5 he)
            clear hl he
            go_wp2_with fail
            go_roundw
            case rel => exact ⟨5, by omega, by omega, rfl, (HIe.out.alloc _).far (Ne.symm HNP.out) _, below_setN (below_alloc' HBe.out _) HBP.out, keep_far (keep_alloc HKe.out _) (Nat.le_of_lt HW1.out) _, blk_far (blk_alloc HRe.out _) HNRP.out _, by rw [Het.out]; exact blk_put (blk_alloc HPe.out _) 1 _ rfl⟩
            case measure => simp [intOf]
          · have hl : ¬ m4.toList = [62, 62] := fun q => he ((opOf_iff m4).2.2.2.2.2 q)
            have hb1 : (([62, 62] : List UInt8) == m4.toList) = false := by rw [beq_eq_false_iff_ne]; exact fun q => hl q.symm
            have Het : Hid (opTo m4 5 = opTo m4 4) := opTo_miss m4 4 he
            clear hl he
            go_wp2_with fail
            go_roundw
            case rel => exact ⟨5, by omega, by omega, rfl, HIe.out.alloc _, below_alloc' HBe.out _, keep_alloc HKe.out _, blk_alloc HRe.out _, by rw [Het.out]; exact blk_alloc HPe.out _⟩
            case measure => simp [intOf]
        case inr.inr.inr.inr.inr =>
          have hd5 : decide ((5 : Int) < 5) = false := by decide
          obtain ⟨o4, Ho4⟩ : ∃ o, Hid (opOf m4 = o) := ⟨_, rfl⟩
          have HPf := Lib.hid (Ho4.out ▸ opTo_five m4 ▸ HPe.out)
          clear HPe
          have pc0 := blk_cell HPf.out 0
          have pc1 := blk_cell HPf.out 1
          have pc2 := blk_cell HPf.out 2
          simp only [List.getElem?_toArray, List.getElem?_cons_succ, List.getElem?_cons_zero] at pc0 pc1 pc2
          cases ho : decide (o4 = 0) with
          | true =>
            have ho1 := of_decide_eq_true ho
            have h := H.out
            rw [if_pos (Ho4.out.trans ho1)] at h
            simp only [Option.some.injEq, noRel, Prod.mk.injEq] at h
            obtain ⟨rfl, rfl, rfl, rfl, rfl, rfl⟩ := h
            have hob : (o4 == 0) = true := beq_iff_eq.2 ho1
            clear ho ho1 H
            have rc0 := blk_cell HRe.out 0
            have rc1 := blk_cell HRe.out 1
            have rc2 := blk_cell HRe.out 2
            have rz0 := blk_frozen HRe.out 0
            have rz1 := blk_frozen HRe.out 1
            have rz2 := blk_frozen HRe.out 2
            simp only [List.getElem?_toArray, List.getElem?_cons_succ, List.getElem?_cons_zero] at rc0 rc1 rc2
            go_wp2_with fail
            refine bodyPost_ret (results_ct rfl _ _ w.heap.size 23 #[.string ⟨#[]⟩, .int .i64 0, .string ⟨#[]⟩] (0, 0) _ rfl (blk_put (blk_put (blk_put HRe.out 0 _ rfl) 1 _ rfl) 2 _ rfl) Tryd.underlying23 rfl rfl) rfl ⟨rfl, (((HIe.out.far (Nat.ne_of_lt Hlt.out) _).far (Nat.ne_of_lt Hlt.out) _).far (Nat.ne_of_lt Hlt.out) _), below_setN (below_setN (below_setN HBe.out Hbw.out) Hbw.out) Hbw.out, keep_far (keep_far (keep_far HKe.out (Nat.le_refl _) _) (Nat.le_refl _) _) (Nat.le_refl _) _⟩
          | false =>
            have ho1 := of_decide_eq_false ho
            have h := H.out
            clear H
            rw [if_neg (fun q => ho1 (Ho4.out.symm.trans q))] at h
            have hob : (o4 == 0) = false := beq_eq_false_iff_ne.2 ho1
            clear ho ho1
            replace h := Option.bind_eq_some_iff.mp h
            obtain ⟨⟨s5, a5⟩, h6, h⟩ := h
            have H6 := Lib.hid h6; clear h6
            replace h := Option.bind_eq_some_iff.mp h
            obtain ⟨⟨v6, s6, a6⟩, h7, h⟩ := h
            have H7 := Lib.hid h7; clear h7
            have H := Lib.hid h; clear h
            go_wp2_with fail
            clear pc0 pc1 pc2 hob
            have HRf := HRe; have HIf := HIe; have HBf := HBe; have HKf := HKe
            refine (relation_reader_pass.calls _ _ _ _ _ _ _ w0 _ HIf.out HBf.out H6.out).mono ?_
            rintro e wh ⟨rfl, hI, hB, hK⟩
            have HIh := Lib.hid hI; have HBh := Lib.hid hB; have HKh := Lib.hid (KeepBut.trans HKf.out hK (.inl rfl))
            have HRh := Lib.hid (hK.blk HRf.out (Nat.ne_of_gt Hlt.out) (by simp))
            have HPh := Lib.hid (hK.blk HPf.out HNP.out (by simp))
            clear hI hB hK
            go_wp2_with fail
            refine (relation_reader_run.calls _ _ _ _ _ _ _ _ w0 _ HIh.out HBh.out H7.out).mono ?_
            rintro e wi ⟨rfl, hI, hB, hK⟩
            have HIi := Lib.hid hI; have HBi := Lib.hid hB; have HKi := Lib.hid (KeepBut.trans HKh.out hK (.inl rfl))
            have HRi := Lib.hid (hK.blk HRh.out (Nat.ne_of_gt Hlt.out) (by simp))
            have HPi := Lib.hid (hK.blk HPh.out HNP.out (by simp))
            clear hI hB hK
            by_cases e6 : v6.toList = []
            · have h := H.out
              rw [if_pos e6] at h
              simp only [Option.some.injEq, noRel, Prod.mk.injEq] at h
              obtain ⟨rfl, rfl, rfl, rfl, rfl, rfl⟩ := h
              have e6b : v6.toList.isEmpty = true := by rw [e6]; rfl
              have rc0 := blk_cell HRi.out 0
              have rc1 := blk_cell HRi.out 1
              have rc2 := blk_cell HRi.out 2
              have rz0 := blk_frozen HRi.out 0
              have rz1 := blk_frozen HRi.out 1
              have rz2 := blk_frozen HRi.out 2
              simp only [List.getElem?_toArray, List.getElem?_cons_succ, List.getElem?_cons_zero] at rc0 rc1 rc2
              go_wp2_with fail
              refine bodyPost_ret (results_ct rfl _ _ w.heap.size 23 #[.string ⟨#[]⟩, .int .i64 0, .string ⟨#[]⟩] (0, 0) _ rfl (blk_put (blk_put (blk_put HRi.out 0 _ rfl) 1 _ rfl) 2 _ rfl) Tryd.underlying23 rfl rfl) rfl ⟨rfl, (((HIi.out.far (Nat.ne_of_lt Hlt.out) _).far (Nat.ne_of_lt Hlt.out) _).far (Nat.ne_of_lt Hlt.out) _), below_setN (below_setN (below_setN HBi.out Hbw.out) Hbw.out) Hbw.out, keep_far (keep_far (keep_far HKi.out (Nat.le_refl _) _) (Nat.le_refl _) _) (Nat.le_refl _) _⟩
            have h := H.out
            clear H
            rw [if_neg e6] at h
            have e6b : v6.toList.isEmpty = false := by simpa using e6
            clear e6
            replace h := Option.bind_eq_some_iff.mp h
            obtain ⟨lg, h8, h⟩ := h
            have H8 := Lib.hid h8; clear h8
            have H := Lib.hid h; clear h
            go_wp2_with fail
            refine (version_Legal.calls _ _ _ _ H8.out).mono ?_
            rintro e wj ⟨rfl, hb⟩
            clear e6b
            have HIj := Lib.hid (HIi.out.below hb); have HBj := Lib.hid (below_then HBi.out HBi.out.size hb); have HKj := Lib.hid (KeepBut.trans HKi.out (KeepBut.of_below hb g none) (.inl rfl)); have HRj := Lib.hid (blk_below HRi.out hb); have HPj := Lib.hid (blk_below HPi.out hb)
            clear hb
            cases lg with
            | false =>
              have h := H.out
              rw [if_pos rfl] at h
              simp only [Option.some.injEq, noRel, Prod.mk.injEq] at h
              obtain ⟨rfl, rfl, rfl, rfl, rfl, rfl⟩ := h
              have rc0 := blk_cell HRj.out 0
              have rc1 := blk_cell HRj.out 1
              have rc2 := blk_cell HRj.out 2
              have rz0 := blk_frozen HRj.out 0
              have rz1 := blk_frozen HRj.out 1
              have rz2 := blk_frozen HRj.out 2
              simp only [List.getElem?_toArray, List.getElem?_cons_succ, List.getElem?_cons_zero] at rc0 rc1 rc2
              go_wp2_with fail
              refine bodyPost_ret (results_ct rfl _ _ w.heap.size 23 #[.string ⟨#[]⟩, .int .i64 0, .string ⟨#[]⟩] (0, 0) _ rfl (blk_put (blk_put (blk_put HRj.out 0 _ rfl) 1 _ rfl) 2 _ rfl) Tryd.underlying23 rfl rfl) rfl ⟨rfl, (((HIj.out.far (Nat.ne_of_lt Hlt.out) _).far (Nat.ne_of_lt Hlt.out) _).far (Nat.ne_of_lt Hlt.out) _), below_setN (below_setN (below_setN HBj.out Hbw.out) Hbw.out) Hbw.out, keep_far (keep_far (keep_far HKj.out (Nat.le_refl _) _) (Nat.le_refl _) _) (Nat.le_refl _) _⟩
            | true =>
              have h := H.out
              clear H
              rw [if_neg (by simp)] at h
              replace h := Option.bind_eq_some_iff.mp h
              obtain ⟨⟨s7, a7⟩, h9, h⟩ := h
              have H9 := Lib.hid h9; clear h9
              replace h := Option.bind_eq_some_iff.mp h
              obtain ⟨⟨b8, s8, a8⟩, h10, h⟩ := h
              have H10 := Lib.hid h10; clear h10
              have H := Lib.hid h; clear h
              have pc0 := blk_cell HPj.out 0
              have pc1 := blk_cell HPj.out 1
              have pc2 := blk_cell HPj.out 2
              have pz0 := blk_frozen HPj.out 0
              have pz1 := blk_frozen HPj.out 1
              have pz2 := blk_frozen HPj.out 2
              simp only [List.getElem?_toArray, List.getElem?_cons_succ, List.getElem?_cons_zero] at pc0 pc1 pc2
              go_wp2_with fail
              clear pc0 pc1 pc2 pz0 pz1 pz2
              have HIk := Lib.hid (HIj.out.far (Ne.symm HNP.out) (p := ⟨w2.heap.size, 2, none⟩) (.string v6)); have HBk := Lib.hid (below_setN (j := 2) (v := .string v6) HBj.out HBP.out); have HKk := Lib.hid (keep_far (p := ⟨w2.heap.size, 2, none⟩) HKj.out (Nat.le_of_lt HW1.out) (.string v6)); have HRk := Lib.hid (blk_far (p := ⟨w2.heap.size, 2, none⟩) HRj.out HNRP.out (.string v6)); have HPk : Hid ((wj.setCell ⟨w2.heap.size, 2, none⟩ (.string v6)).heap[w2.heap.size]? = some (.cells #[.string v1, .int .i64 o4, .string v6] 23 (0, 0))) := blk_put HPj.out 2 (.string v6) rfl
              refine (relation_reader_pass.calls _ _ _ _ _ _ _ w0 _ HIk.out HBk.out H9.out).mono ?_
              rintro e wl ⟨rfl, hI, hB, hK⟩
              have HIl := Lib.hid hI; have HBl := Lib.hid hB; have HKl := Lib.hid (KeepBut.trans HKk.out hK (.inl rfl))
              have HRl := Lib.hid (hK.blk HRk.out (Nat.ne_of_gt Hlt.out) (by simp))
              have HPl := Lib.hid (hK.blk HPk.out HNP.out (by simp))
              clear hI hB hK
              go_wp2_with fail
              refine (relation_reader_takes.calls _ _ _ _ _ _ _ _ w0 _ HIl.out HBl.out H10.out).mono ?_
              rintro e wm ⟨rfl, hI, hB, hK⟩
              have HIm := Lib.hid hI; have HBm := Lib.hid hB; have HKm := Lib.hid (KeepBut.trans HKl.out hK (.inl rfl))
              have HRm := Lib.hid (hK.blk HRl.out (Nat.ne_of_gt Hlt.out) (by simp))
              have HPm := Lib.hid (hK.blk HPl.out HNP.out (by simp))
              clear hI hB hK
              cases b8 with
              | false =>
                have h := H.out
                rw [if_pos rfl] at h
                simp only [Option.some.injEq, noRel, Prod.mk.injEq] at h
                obtain ⟨rfl, rfl, rfl, rfl, rfl, rfl⟩ := h
                have rc0 := blk_cell HRm.out 0
                have rc1 := blk_cell HRm.out 1
                have rc2 := blk_cell HRm.out 2
                have rz0 := blk_frozen HRm.out 0
                have rz1 := blk_frozen HRm.out 1
                have rz2 := blk_frozen HRm.out 2
                simp only [List.getElem?_toArray, List.getElem?_cons_succ, List.getElem?_cons_zero] at rc0 rc1 rc2
                go_wp2_with fail
                refine bodyPost_ret (results_ct rfl _ _ w.heap.size 23 #[.string ⟨#[]⟩, .int .i64 0, .string ⟨#[]⟩] (0, 0) _ rfl (blk_put (blk_put (blk_put HRm.out 0 _ rfl) 1 _ rfl) 2 _ rfl) Tryd.underlying23 rfl rfl) rfl ⟨rfl, (((HIm.out.far (Nat.ne_of_lt Hlt.out) _).far (Nat.ne_of_lt Hlt.out) _).far (Nat.ne_of_lt Hlt.out) _), below_setN (below_setN (below_setN HBm.out Hbw.out) Hbw.out) Hbw.out, keep_far (keep_far (keep_far HKm.out (Nat.le_refl _) _) (Nat.le_refl _) _) (Nat.le_refl _) _⟩
              | true =>
                have h := H.out
                rw [if_neg (by simp)] at h
                simp only [Option.some.injEq, Prod.mk.injEq] at h
                obtain ⟨rfl, rfl, rfl, rfl, rfl, rfl⟩ := h
                clear H
                have rc0 := blk_cell HRm.out 0
                have rc1 := blk_cell HRm.out 1
                have rc2 := blk_cell HRm.out 2
                have rz0 := blk_frozen HRm.out 0
                have rz1 := blk_frozen HRm.out 1
                have rz2 := blk_frozen HRm.out 2
                simp only [List.getElem?_toArray, List.getElem?_cons_succ, List.getElem?_cons_zero] at rc0 rc1 rc2
                have pc0 := blk_cell HPm.out 0
                have pc1 := blk_cell HPm.out 1
                have pc2 := blk_cell HPm.out 2
                simp only [List.getElem?_toArray, List.getElem?_cons_succ, List.getElem?_cons_zero] at pc0 pc1 pc2
                go_wp2_with fail
                refine bodyPost_ret (results_ct rfl _ _ w.heap.size 23 #[.string v1, .int .i64 o4, .string v6] (0, 0) _ rfl (blk_put (blk_put (blk_put HRm.out 0 _ rfl) 1 _ rfl) 2 _ rfl) Tryd.underlying23 rfl rfl) rfl ⟨by rw [Ho4.out]; rfl, (((HIm.out.far (Nat.ne_of_lt Hlt.out) _).far (Nat.ne_of_lt Hlt.out) _).far (Nat.ne_of_lt Hlt.out) _), below_setN (below_setN (below_setN HBm.out Hbw.out) Hbw.out) Hbw.out, keep_far (keep_far (keep_far HKm.out (Nat.le_refl _) _) (Nat.le_refl _) _) (Nat.le_refl _) _⟩


end Go.Proofs.YtphabealejpfnaaDoor.V
