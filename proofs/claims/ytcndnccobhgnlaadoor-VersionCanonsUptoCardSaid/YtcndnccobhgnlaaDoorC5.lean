-- printed by wip/myprint.py of this session over the kit's print.py; Lean checks it
import Derived.Test.YtcndnccobhgnlaaDoorC0
import Derived.Test.YtcndnccobhgnlaaDoorC4
namespace Go.Proofs.YtcndnccobhgnlaaDoor.C
open Go.RowKit Go.Proofs.YtcndnccobhgnlaaDoorW.PrintWords Go.Proofs.YtcndnccobhgnlaaDoorW.PrintLast Go.Proofs.YtcndnccobhgnlaaDoorW.PrintMore
attribute [local go_sem] max2_int min2_int max_two min_two max_three min_three max_four min_four   -- for this text's walks alone
set_option linter.unusedVariables false
set_option linter.unusedSimpArgs false

/-! ### version_Canon: function 8 -/
def version_Canon.j0 : Nat → List (List (S40)) → ByteArray → Bool → Bool → Option (ByteArray × Int)
  | 0, _, _, _, _ => none
  | k + 1, x4, x6, x8, x32 => if x32 = true then (if 2 < (x4.length : Int) then ((version_told.f (rd_L7 x4 2)).bind fun t158 => (if 1 + t158.size ≤ 9223372036854775807 then (if x6.size + ((⟨#[45]⟩ : ByteArray) ++ t158).size ≤ 9223372036854775807 then (if x8 = true then (if 0 < (x4.length : Int) then ((version_told.f (rd_L7 x4 0)).bind fun t160 => (if t160.size + 1 ≤ 9223372036854775807 then (if (t160 ++ (⟨#[58]⟩ : ByteArray)).size + (x6 ++ ((⟨#[45]⟩ : ByteArray) ++ t158)).size ≤ 9223372036854775807 then (some ((t160 ++ (⟨#[58]⟩ : ByteArray)) ++ (x6 ++ ((⟨#[45]⟩ : ByteArray) ++ t158)), 0)) else (none)) else (none))) else (none)) else (if 0 < (x4.length : Int) then (if ((rd_L7 x4 0).length : Int) > 0 then ((version_told.f (rd_L7 x4 0)).bind fun t163 => (if t163.size + 1 ≤ 9223372036854775807 then (if (t163 ++ (⟨#[58]⟩ : ByteArray)).size + (x6 ++ ((⟨#[45]⟩ : ByteArray) ++ t158)).size ≤ 9223372036854775807 then (some ((t163 ++ (⟨#[58]⟩ : ByteArray)) ++ (x6 ++ ((⟨#[45]⟩ : ByteArray) ++ t158)), 0)) else (none)) else (none))) else (some (x6 ++ ((⟨#[45]⟩ : ByteArray) ++ t158), 0))) else (none))) else (none)) else (none))) else (none)) else (if x8 = true then (if 0 < (x4.length : Int) then ((version_told.f (rd_L7 x4 0)).bind fun t165 => (if t165.size + 1 ≤ 9223372036854775807 then (if (t165 ++ (⟨#[58]⟩ : ByteArray)).size + x6.size ≤ 9223372036854775807 then (some ((t165 ++ (⟨#[58]⟩ : ByteArray)) ++ x6, 0)) else (none)) else (none))) else (none)) else (if 0 < (x4.length : Int) then (if ((rd_L7 x4 0).length : Int) > 0 then ((version_told.f (rd_L7 x4 0)).bind fun t168 => (if t168.size + 1 ≤ 9223372036854775807 then (if (t168 ++ (⟨#[58]⟩ : ByteArray)).size + x6.size ≤ 9223372036854775807 then (some ((t168 ++ (⟨#[58]⟩ : ByteArray)) ++ x6, 0)) else (none)) else (none))) else (some (x6, 0))) else (none)))
def version_Canon.f (k : Nat) (a0 : ByteArray) : Option (ByteArray × Int) := (version_Key.f k a0).bind fun bt148 => (if bt148.2 = 0 then (if 1 < (bt148.1.length : Int) then ((version_told.f (rd_L7 bt148.1 1)).bind fun t153 => ((strings_Contains.f t153 (⟨#[45]⟩ : ByteArray)).bind fun t154 => ((strings_Contains.f t153 (⟨#[58]⟩ : ByteArray)).bind fun t155 => (if t154 = true then (version_Canon.j0 k bt148.1 t153 t155 true) else (if 2 < (bt148.1.length : Int) then (version_Canon.j0 k bt148.1 t153 t155 (decide (((rd_L7 bt148.1 2).length : Int) > 0))) else (none)))))) else (none)) else (some ((⟨#[]⟩ : ByteArray), bt148.2)))
theorem version_Canon.mono_l : ∀ k, (∀ y0 y1 y2 y3, LeO (version_Canon.j0 k y0 y1 y2 y3) (version_Canon.j0 (k + 1) y0 y1 y2 y3))
  | 0 => fun _ _ _ _ r h => by simp [version_Canon.j0] at h
  | k + 1 => by
    have ih0 := version_Canon.mono_l k
    · intro y0 y1 y2 y3
      unfold version_Canon.j0
      repeat' first
      | (with_reducible exact ih0 _ _ _ _)
      | (with_reducible exact version_Key.mono _ _)
      | (with_reducible exact LeO.refl _)
      | (with_reducible exact LeO.none _)
      | (with_reducible refine LeO.ite ?_ ?_)
      | (with_reducible refine LeO.bind ?_ (fun _ => ?_))
      | exact ih0 _ _ _ _
      | exact version_Key.mono _ _
      | exact LeO.none _
      | refine LeO.ite ?_ ?_
      | refine LeO.bind ?_ (fun _ => ?_)
theorem version_Canon.mono : ∀ a0 k, LeO (version_Canon.f k a0) (version_Canon.f (k + 1) a0) := by
  intro a0 k
  have ih0 := version_Canon.mono_l k
  unfold version_Canon.f
  repeat' first
      | (with_reducible exact ih0 _ _ _ _)
      | (with_reducible exact version_Key.mono _ _)
      | (with_reducible exact LeO.refl _)
      | (with_reducible exact LeO.none _)
      | (with_reducible refine LeO.ite ?_ ?_)
      | (with_reducible refine LeO.bind ?_ (fun _ => ?_))
      | exact ih0 _ _ _ _
      | exact version_Key.mono _ _
      | exact LeO.none _
      | refine LeO.ite ?_ ?_
      | refine LeO.bind ?_ (fun _ => ?_)
set_option maxHeartbeats 8000000 in
set_option maxRecDepth 100000 in
theorem version_Canon.calls (k : Nat) (a0 : ByteArray) (r1 : ByteArray) (r2 : Int) (w : World) (h : version_Canon.f k a0 = some (r1, r2)) :
    Calls Tryd.prog 8 #[.string a0] w fun e w' => e = .returned (.tuple #[.string r1, .int .i64 r2]) ∧ Below w.heap.size w w' := by
  have HB := Aside0.mk (Below.refl w.heap.size w)
  have H : ((version_Key.f k a0).bind fun bt148 => (if bt148.2 = 0 then (if 1 < (bt148.1.length : Int) then ((version_told.f (rd_L7 bt148.1 1)).bind fun t153 => ((strings_Contains.f t153 (⟨#[45]⟩ : ByteArray)).bind fun t154 => ((strings_Contains.f t153 (⟨#[58]⟩ : ByteArray)).bind fun t155 => (if t154 = true then (version_Canon.j0 k bt148.1 t153 t155 true) else (if 2 < (bt148.1.length : Int) then (version_Canon.j0 k bt148.1 t153 t155 (decide (((rd_L7 bt148.1 2).length : Int) > 0))) else (none)))))) else (none)) else (some ((⟨#[]⟩ : ByteArray), bt148.2)))) = some (r1, r2) := h
  clear h
  replace H := Option.bind_eq_some_iff.mp H
  obtain ⟨⟨t148, t151⟩, A20, H⟩ := H
  replace H : (if t151 = 0 then (if 1 < (t148.length : Int) then ((version_told.f (rd_L7 t148 1)).bind fun t153 => ((strings_Contains.f t153 (⟨#[45]⟩ : ByteArray)).bind fun t154 => ((strings_Contains.f t153 (⟨#[58]⟩ : ByteArray)).bind fun t155 => (if t154 = true then (version_Canon.j0 k t148 t153 t155 true) else (if 2 < (t148.length : Int) then (version_Canon.j0 k t148 t153 t155 (decide (((rd_L7 t148 2).length : Int) > 0))) else (none)))))) else (none)) else (some ((⟨#[]⟩ : ByteArray), t151))) = some (r1, r2) := H
  have A2 := Aside0.mk A20
  clear A20
  by_cases c3 : t151 = 0
  · rw [if_pos c3] at H
    have c3b0 : (t151 == 0) = true := beq_iff_eq.mpr c3
    have c3b1 : (t151 != 0) = false := bne_eq_false_iff_eq.mpr c3
    clear c3
    by_cases c4 : 1 < (t148.length : Int)
    · rw [if_pos c4] at H
      have c4b0 : decide (1 < (t148.length : Int)) = true := decide_eq_true c4
      have c4b1 : decide (1 < t148.length) = true := decide_eq_true (by omega)
      clear c4
      replace H := Option.bind_eq_some_iff.mp H
      obtain ⟨t153, A50, H⟩ := H
      replace H : ((strings_Contains.f t153 (⟨#[45]⟩ : ByteArray)).bind fun t154 => ((strings_Contains.f t153 (⟨#[58]⟩ : ByteArray)).bind fun t155 => (if t154 = true then (version_Canon.j0 k t148 t153 t155 true) else (if 2 < (t148.length : Int) then (version_Canon.j0 k t148 t153 t155 (decide (((rd_L7 t148 2).length : Int) > 0))) else (none))))) = some (r1, r2) := H
      have A5 := Aside0.mk A50
      clear A50
      replace H := Option.bind_eq_some_iff.mp H
      obtain ⟨t154, A60, H⟩ := H
      replace H : ((strings_Contains.f t153 (⟨#[58]⟩ : ByteArray)).bind fun t155 => (if t154 = true then (version_Canon.j0 k t148 t153 t155 true) else (if 2 < (t148.length : Int) then (version_Canon.j0 k t148 t153 t155 (decide (((rd_L7 t148 2).length : Int) > 0))) else (none)))) = some (r1, r2) := H
      have A6 := Aside0.mk A60
      clear A60
      replace H := Option.bind_eq_some_iff.mp H
      obtain ⟨t155, A70, H⟩ := H
      replace H : (if t154 = true then (version_Canon.j0 k t148 t153 t155 true) else (if 2 < (t148.length : Int) then (version_Canon.j0 k t148 t153 t155 (decide (((rd_L7 t148 2).length : Int) > 0))) else (none))) = some (r1, r2) := H
      have A7 := Aside0.mk A70
      clear A70
      have HC8 := Aside0.mk H
      clear H
      go_enter Tryd.func8, Tryd.ntmps8
      go_upto_region 6 with (first | ((with_reducible refine gate_callee (f := 5) rfl ?_); refine goesL_ (some 11) rfl rfl Tryd.func5 (by kernel_rfl) rfl #[.string a0] rfl (by (try simp only [List.map_toArray, List.map_cons, List.map_nil]); first | done | rfl | (simp only [List.length_drop, List.length_take]; rfl) | (simp; done)) ?_; (with_reducible refine (version_Key.calls k a0 t148 t151 _ A2.out).mono ?_); rintro e w9 ⟨v149, rfl, ho0, hb⟩; refine ⟨_, rfl, ?_⟩; have n0_ := Aside0.mk (Kd.N_lower (Kd.N_mono (ok' := fun k_ => True) ho0 (fun k_ hk_ => trivial)) (below_size (by repeat (first | (with_reducible first | exact HB.out | apply below_alloc | apply pw_below_drewN | apply below_drew1) | exact HB.out)))); have n1_ := Aside0.mk (below_step (by repeat (first | (with_reducible first | exact HB.out | apply below_alloc | apply pw_below_drewN | apply below_drew1) | exact HB.out)) hb); clear HB; have HO150 := n0_; have HB := n1_; clear n0_ n1_; (try clear hb); (try clear hb2); (try clear hk); (try clear hi); (try clear ho0); obtain ⟨Ao10, co10, eo10⟩ := Kd.N_slice HO150.out; subst eo10; have p152 : 0 ≤ (1 : Int) := (by omega); have q152 : 1 < (t148.length : Int) := of_decide_eq_true (by first | (with_reducible assumption) | assumption); obtain ⟨ad152, A152_0, c152_0, e152, hx152_0, hl152_0, hi152_0⟩ := at_L7 (Kd.N_reads' HO150.out).2.2 1 p152 q152; cases e152; obtain ⟨ce152, hce152, hMe152, hcc152⟩ := Kd.N_get HO150.out [] 1 p152 (by first | exact q152 | exact of_decide_eq_true (by first | (with_reducible assumption) | assumption) | (have e_ := (Kd.N_reads' HO150.out).1; omega)); obtain ⟨ua152_0, uc152_0, rfl, ul152_0, ge152_0⟩ := Kd.FK_slice_open hMe152; have hv152_0 := hcc152 0 _ rfl; rw [Nat.add_zero, show ((Kd.slice 40 k40)).sz = 1 from rfl, Nat.mul_one] at hv152_0; replace hv152_0 := Option.some.inj (hv152_0.symm.trans hx152_0); injection hv152_0 with hva_ hvn_ hvc_; rw [hva_] at ge152_0; rw [hvc_] at ul152_0; have HL152_0 := Aside0.mk (show Kd.V k40 40 _ w.heap.size _ _ (rd_L7 t148 1) from Kd.V_mk ul152_0 ge152_0); clear hva_ hvn_ hvc_ ge152_0 ul152_0; clear hcc152 hce152; (try simp only [show (1 : Int).toNat = 1 from rfl, Nat.reduceMul, Nat.reduceEqDiff, Go.Addr.add, ↓reduceIte] at hx152_0); have qi152 : (1 < t148.length) = True := eq_true (by omega); (try rw [show ((1 : Int)).toNat = 1 from rfl] at hx152_0); have HR152_0 := Aside0.mk hi152_0; have HC152_0 := Aside0.mk hl152_0; clear hi152_0 hl152_0; replace p152 := eq_true p152; replace q152 := eq_true q152) | ((with_reducible refine gate_callee (f := 15) rfl ?_); refine goesL_ (some 20) rfl rfl Tryd.func15 (by kernel_rfl) rfl #[.slice A152_0 (rd_L7 t148 1).length c152_0] rfl (by (try simp only [List.map_toArray, List.map_cons, List.map_nil]); first | done | rfl | (simp only [List.length_drop, List.length_take]; rfl) | (simp; done)) ?_; (with_reducible refine (version_told.calls _ _ (rd_L7 t148 1) t153 _ ?side1 ?side2 A5.out).mono ?_); (case side1 => repeat (first | exact (by repeat (first | (with_reducible exact HR152_0.out) | (with_reducible refine Kd.C_alloc ?_ _) | (with_reducible refine Kd.C_drewN ?_ _) | (with_reducible refine Kd.C_drew ?_) | exact HR152_0.out)) | (with_reducible refine Kd.C_alloc ?_ _) | (with_reducible refine Kd.C_drewN ?_ _) | (with_reducible refine Kd.C_drew ?_))); (case side2 => exact HC152_0.out); rintro e w11 ⟨rfl, hb⟩; refine ⟨_, rfl, ?_⟩; have n0_ := Aside0.mk (Kd.N_below (by (with_reducible repeat (first | apply Kd.N_alloc | apply Kd.N_drewN | apply Kd.N_drew)); exact HO150.out) hb); have n1_ := Aside0.mk (Kd.V_below (by (with_reducible repeat (first | apply Kd.V_alloc | apply Kd.V_drewN | apply Kd.V_drew)); exact HL152_0.out) hb); have n2_ := Aside0.mk (Kd.C_below (by repeat (first | (with_reducible exact HR152_0.out) | (with_reducible refine Kd.C_alloc ?_ _) | (with_reducible refine Kd.C_drewN ?_ _) | (with_reducible refine Kd.C_drew ?_) | exact HR152_0.out)) hb); have n3_ := Aside0.mk (below_step (by repeat (first | (with_reducible first | exact HB.out | apply below_alloc | apply pw_below_drewN | apply below_drew1) | exact HB.out)) hb); clear HO150; clear HL152_0; clear HR152_0; clear HB; have HO150 := n0_; have HL152_0 := n1_; have HR152_0 := n2_; have HB := n3_; clear n0_ n1_ n2_ n3_; (try clear hb); (try clear hb2); (try clear hk); (try clear hi)) | ((with_reducible refine gate_callee (f := 16) rfl ?_); refine goesL_ (some 22) rfl rfl Tryd.func16 (by kernel_rfl) rfl #[.string t153, .string (⟨#[45]⟩ : ByteArray)] rfl (by (try simp only [List.map_toArray, List.map_cons, List.map_nil]); first | done | rfl | (simp only [List.length_drop, List.length_take]; rfl) | (simp; done)) ?_; (with_reducible refine (strings_Contains.calls t153 (⟨#[45]⟩ : ByteArray) t154 _ A6.out).mono ?_); rintro e w' ⟨rfl, ⟨nd, rfl⟩⟩; refine ⟨_, rfl, ?_⟩) | ((with_reducible refine gate_callee (f := 16) rfl ?_); refine goesL_ (some 24) rfl rfl Tryd.func16 (by kernel_rfl) rfl #[.string t153, .string (⟨#[58]⟩ : ByteArray)] rfl (by (try simp only [List.map_toArray, List.map_cons, List.map_nil]); first | done | rfl | (simp only [List.length_drop, List.length_take]; rfl) | (simp; done)) ?_; (with_reducible refine (strings_Contains.calls t153 (⟨#[58]⟩ : ByteArray) t155 _ A7.out).mono ?_); rintro e w' ⟨rfl, ⟨nd, rfl⟩⟩; refine ⟨_, rfl, ?_⟩))
      (try simp only [Act.put, List.setIfInBounds_toArray, List.set_cons_zero, List.set_cons_succ])
      go_cut [32] (fun v32 wc => ∃ (kq : Nat) (x32_7 : Bool), v32 = .bool x32_7 ∧ Aside0 (version_Canon.j0 kq t148 t153 t155 x32_7 = some (r1, r2)) ∧ Aside0 (kq ≤ k) ∧ Aside0 (Kd.N (Kd.slice 40 k40) 34 wc w.heap.size (fun _ => True) (.slice (some ad152) t148.length co10) t148) ∧ Aside0 (Kd.C k40 wc A152_0 (rd_L7 t148 1).length (rd_L7 t148 1)) ∧ Aside0 (Below w.heap.size w wc))
      case first =>
        have H := HC8.out
        clear HC8
        by_cases c12 : t154 = true
        · subst c12
          have H1 : (version_Canon.j0 k t148 t153 t155 true) = some (r1, r2) := by rw [if_pos rfl] at H; exact H
          clear H
          have H := H1
          clear H1
          have H' := Aside0.mk H
          clear H
          go_wp2
          go_meet
          case rel => exact ⟨_, (true), (by first | rfl | (simp; done) | (simp [*]; done)), H', ⟨by first | omega | exact Nat.le_refl _⟩, ⟨by (with_reducible repeat (first | apply Kd.N_alloc | apply Kd.N_drewN | apply Kd.N_drew)); exact HO150.out⟩, ⟨by repeat (first | (with_reducible exact HR152_0.out) | (with_reducible refine Kd.C_alloc ?_ _) | (with_reducible refine Kd.C_drewN ?_ _) | (with_reducible refine Kd.C_drew ?_) | exact HR152_0.out)⟩, ⟨by repeat (first | (with_reducible first | exact HB.out | apply below_alloc | apply pw_below_drewN | apply below_drew1) | exact HB.out)⟩⟩
        · replace c12 := Bool.eq_false_iff.mpr c12
          subst c12
          have H1 : (if 2 < (t148.length : Int) then (version_Canon.j0 k t148 t153 t155 (decide (((rd_L7 t148 2).length : Int) > 0))) else (none)) = some (r1, r2) := by rw [if_neg (show ¬ (false = true) by decide)] at H; exact H
          clear H
          have H := H1
          clear H1
          by_cases c13 : 2 < (t148.length : Int)
          · rw [if_pos c13] at H
            have c13b0 : decide (2 < (t148.length : Int)) = true := decide_eq_true c13
            have c13b1 : decide (2 < t148.length) = true := decide_eq_true (by omega)
            clear c13
            (first | rw [c13b0] | (simp only [i64_w, i32_w]; rw [c13b0]) | skip)
            have H' := Aside0.mk H
            clear H
            have p156 : 0 ≤ (2 : Int) := (by omega)
            have q156 : 2 < (t148.length : Int) := of_decide_eq_true (by first | (with_reducible assumption) | assumption)
            obtain ⟨ad156, A156_0, c156_0, e156, hx156_0, hl156_0, hi156_0⟩ := at_L7 (Kd.N_reads' HO150.out).2.2 2 p156 q156
            obtain rfl : ad152 = ad156 := (by injection e156)
            obtain ⟨ce156, hce156, hMe156, hcc156⟩ := Kd.N_get HO150.out [] 2 p156 (by first | exact q156 | exact of_decide_eq_true (by first | (with_reducible assumption) | assumption) | (have e_ := (Kd.N_reads' HO150.out).1; omega))
            obtain ⟨ua156_0, uc156_0, rfl, ul156_0, ge156_0⟩ := Kd.FK_slice_open hMe156
            have hv156_0 := hcc156 0 _ rfl
            rw [Nat.add_zero, show ((Kd.slice 40 k40)).sz = 1 from rfl, Nat.mul_one] at hv156_0
            replace hv156_0 := Option.some.inj (hv156_0.symm.trans hx156_0)
            injection hv156_0 with hva_ hvn_ hvc_
            rw [hva_] at ge156_0
            rw [hvc_] at ul156_0
            have HL156_0 := Aside0.mk (show Kd.V k40 40 _ w.heap.size _ _ (rd_L7 t148 2) from Kd.V_mk ul156_0 ge156_0)
            clear hva_ hvn_ hvc_ ge156_0 ul156_0
            clear hcc156 hce156
            (try simp only [show (2 : Int).toNat = 2 from rfl, Nat.reduceMul, Nat.reduceEqDiff, Go.Addr.add, ↓reduceIte] at hx156_0)
            have qi156 : (2 < t148.length) = True := eq_true (by omega)
            (try rw [show ((2 : Int)).toNat = 2 from rfl] at hx156_0)
            have HR156_0 := Aside0.mk hi156_0
            have HC156_0 := Aside0.mk hl156_0
            clear hi156_0 hl156_0
            replace p156 := eq_true p156
            replace q156 := eq_true q156
            go_wp2
            go_meet
            case rel => exact ⟨_, (decide (((rd_L7 t148 2).length : Int) > 0)), (by first | rfl | (simp; done) | (simp [*]; done)), H', ⟨by first | omega | exact Nat.le_refl _⟩, ⟨by (with_reducible repeat (first | apply Kd.N_alloc | apply Kd.N_drewN | apply Kd.N_drew)); exact HO150.out⟩, ⟨by repeat (first | (with_reducible exact HR152_0.out) | (with_reducible refine Kd.C_alloc ?_ _) | (with_reducible refine Kd.C_drewN ?_ _) | (with_reducible refine Kd.C_drew ?_) | exact HR152_0.out)⟩, ⟨by repeat (first | (with_reducible first | exact HB.out | apply below_alloc | apply pw_below_drewN | apply below_drew1) | exact HB.out)⟩⟩
          · rw [if_neg c13] at H
            exact absurd H (by simp)
      case rest =>
        clear HC8
        try clear c1
        try clear p1
        try clear q1
        try clear hx1
        try clear qi1
        try clear p2
        try clear c3
        try clear c3b0
        try clear c3b1
        try clear c4
        try clear c4b0
        try clear c4b1
        try clear c5
        try clear c8
        try clear c12
        try clear c13
        try clear c13b0
        try clear c13b1
        try clear hx152_0
        try clear hx156_0
        try clear p152
        try clear p156
        try clear q152
        try clear q156
        obtain ⟨kq, x32_7, rfl, HA, HJ7, HO_4, HR152_0, HB⟩ := hcut
        cases kq with
        | zero => exact absurd HA.out (by simp [version_Canon.j0])
        | succ kj7 =>
          have H := HA.out
          clear HA
          simp only [version_Canon.j0] at H
          by_cases c14 : x32_7 = true
          · subst c14
            have H1 : (if 2 < (t148.length : Int) then ((version_told.f (rd_L7 t148 2)).bind fun t158 => (if 1 + t158.size ≤ 9223372036854775807 then (if t153.size + ((⟨#[45]⟩ : ByteArray) ++ t158).size ≤ 9223372036854775807 then (if t155 = true then (if 0 < (t148.length : Int) then ((version_told.f (rd_L7 t148 0)).bind fun t160 => (if t160.size + 1 ≤ 9223372036854775807 then (if (t160 ++ (⟨#[58]⟩ : ByteArray)).size + (t153 ++ ((⟨#[45]⟩ : ByteArray) ++ t158)).size ≤ 9223372036854775807 then (some ((t160 ++ (⟨#[58]⟩ : ByteArray)) ++ (t153 ++ ((⟨#[45]⟩ : ByteArray) ++ t158)), 0)) else (none)) else (none))) else (none)) else (if 0 < (t148.length : Int) then (if ((rd_L7 t148 0).length : Int) > 0 then ((version_told.f (rd_L7 t148 0)).bind fun t163 => (if t163.size + 1 ≤ 9223372036854775807 then (if (t163 ++ (⟨#[58]⟩ : ByteArray)).size + (t153 ++ ((⟨#[45]⟩ : ByteArray) ++ t158)).size ≤ 9223372036854775807 then (some ((t163 ++ (⟨#[58]⟩ : ByteArray)) ++ (t153 ++ ((⟨#[45]⟩ : ByteArray) ++ t158)), 0)) else (none)) else (none))) else (some (t153 ++ ((⟨#[45]⟩ : ByteArray) ++ t158), 0))) else (none))) else (none)) else (none))) else (none)) = some (r1, r2) := by rw [if_pos rfl] at H; exact H
            clear H
            have H := H1
            clear H1
            by_cases c15 : 2 < (t148.length : Int)
            · rw [if_pos c15] at H
              have c15b0 : decide (2 < (t148.length : Int)) = true := decide_eq_true c15
              have c15b1 : decide (2 < t148.length) = true := decide_eq_true (by omega)
              clear c15
              replace H := Option.bind_eq_some_iff.mp H
              obtain ⟨t158, A160, H⟩ := H
              replace H : (if 1 + t158.size ≤ 9223372036854775807 then (if t153.size + ((⟨#[45]⟩ : ByteArray) ++ t158).size ≤ 9223372036854775807 then (if t155 = true then (if 0 < (t148.length : Int) then ((version_told.f (rd_L7 t148 0)).bind fun t160 => (if t160.size + 1 ≤ 9223372036854775807 then (if (t160 ++ (⟨#[58]⟩ : ByteArray)).size + (t153 ++ ((⟨#[45]⟩ : ByteArray) ++ t158)).size ≤ 9223372036854775807 then (some ((t160 ++ (⟨#[58]⟩ : ByteArray)) ++ (t153 ++ ((⟨#[45]⟩ : ByteArray) ++ t158)), 0)) else (none)) else (none))) else (none)) else (if 0 < (t148.length : Int) then (if ((rd_L7 t148 0).length : Int) > 0 then ((version_told.f (rd_L7 t148 0)).bind fun t163 => (if t163.size + 1 ≤ 9223372036854775807 then (if (t163 ++ (⟨#[58]⟩ : ByteArray)).size + (t153 ++ ((⟨#[45]⟩ : ByteArray) ++ t158)).size ≤ 9223372036854775807 then (some ((t163 ++ (⟨#[58]⟩ : ByteArray)) ++ (t153 ++ ((⟨#[45]⟩ : ByteArray) ++ t158)), 0)) else (none)) else (none))) else (some (t153 ++ ((⟨#[45]⟩ : ByteArray) ++ t158), 0))) else (none))) else (none)) else (none)) = some (r1, r2) := H
              have A16 := Aside0.mk A160
              clear A160
              by_cases c17 : 1 + t158.size ≤ 9223372036854775807
              · rw [if_pos c17] at H
                have c17b0 := eq_true c17
                have c17b1 : decide (1 + t158.size ≤ 9223372036854775807) = true := decide_eq_true c17
                try have c17b2 : (9223372036854775807 < 1 + t158.size) = False := eq_false (Nat.not_lt.2 c17)
                try (have c17b3 := c17b2; simp only [ByteArray.size_append', ByteArray.size_mk', List.size_toArray, List.length_cons, List.length_nil, Nat.reduceAdd] at c17b3)
                by_cases c18 : t153.size + ((⟨#[45]⟩ : ByteArray) ++ t158).size ≤ 9223372036854775807
                · rw [if_pos c18] at H
                  have c18b0 := eq_true c18
                  have c18b1 : decide (t153.size + ((⟨#[45]⟩ : ByteArray) ++ t158).size ≤ 9223372036854775807) = true := decide_eq_true c18
                  try have c18b2 : (9223372036854775807 < t153.size + ((⟨#[45]⟩ : ByteArray) ++ t158).size) = False := eq_false (Nat.not_lt.2 c18)
                  try (have c18b3 := c18b2; simp only [ByteArray.size_append', ByteArray.size_mk', List.size_toArray, List.length_cons, List.length_nil, Nat.reduceAdd] at c18b3)
                  by_cases c19 : t155 = true
                  · subst c19
                    have H1 : (if 0 < (t148.length : Int) then ((version_told.f (rd_L7 t148 0)).bind fun t160 => (if t160.size + 1 ≤ 9223372036854775807 then (if (t160 ++ (⟨#[58]⟩ : ByteArray)).size + (t153 ++ ((⟨#[45]⟩ : ByteArray) ++ t158)).size ≤ 9223372036854775807 then (some ((t160 ++ (⟨#[58]⟩ : ByteArray)) ++ (t153 ++ ((⟨#[45]⟩ : ByteArray) ++ t158)), 0)) else (none)) else (none))) else (none)) = some (r1, r2) := by rw [if_pos rfl] at H; exact H
                    clear H
                    have H := H1
                    clear H1
                    by_cases c20 : 0 < (t148.length : Int)
                    · rw [if_pos c20] at H
                      have c20b0 : decide (0 < (t148.length : Int)) = true := decide_eq_true c20
                      have c20b1 : decide (0 < t148.length) = true := decide_eq_true (by omega)
                      clear c20
                      replace H := Option.bind_eq_some_iff.mp H
                      obtain ⟨t160, A210, H⟩ := H
                      replace H : (if t160.size + 1 ≤ 9223372036854775807 then (if (t160 ++ (⟨#[58]⟩ : ByteArray)).size + (t153 ++ ((⟨#[45]⟩ : ByteArray) ++ t158)).size ≤ 9223372036854775807 then (some ((t160 ++ (⟨#[58]⟩ : ByteArray)) ++ (t153 ++ ((⟨#[45]⟩ : ByteArray) ++ t158)), 0)) else (none)) else (none)) = some (r1, r2) := H
                      have A21 := Aside0.mk A210
                      clear A210
                      by_cases c22 : t160.size + 1 ≤ 9223372036854775807
                      · rw [if_pos c22] at H
                        have c22b0 := eq_true c22
                        have c22b1 : decide (t160.size + 1 ≤ 9223372036854775807) = true := decide_eq_true c22
                        try have c22b2 : (9223372036854775807 < t160.size + 1) = False := eq_false (Nat.not_lt.2 c22)
                        try (have c22b3 := c22b2; simp only [ByteArray.size_append', ByteArray.size_mk', List.size_toArray, List.length_cons, List.length_nil, Nat.reduceAdd] at c22b3)
                        by_cases c23 : (t160 ++ (⟨#[58]⟩ : ByteArray)).size + (t153 ++ ((⟨#[45]⟩ : ByteArray) ++ t158)).size ≤ 9223372036854775807
                        · rw [if_pos c23] at H
                          have c23b0 := eq_true c23
                          have c23b1 : decide ((t160 ++ (⟨#[58]⟩ : ByteArray)).size + (t153 ++ ((⟨#[45]⟩ : ByteArray) ++ t158)).size ≤ 9223372036854775807) = true := decide_eq_true c23
                          try have c23b2 : (9223372036854775807 < (t160 ++ (⟨#[58]⟩ : ByteArray)).size + (t153 ++ ((⟨#[45]⟩ : ByteArray) ++ t158)).size) = False := eq_false (Nat.not_lt.2 c23)
                          try (have c23b3 := c23b2; simp only [ByteArray.size_append', ByteArray.size_mk', List.size_toArray, List.length_cons, List.length_nil, Nat.reduceAdd] at c23b3)
                          simp only [Option.some.injEq, Prod.mk.injEq] at H
                          obtain ⟨rfl, rfl⟩ := H
                          have p157 : 0 ≤ (2 : Int) := (by omega)
                          have q157 : 2 < (t148.length : Int) := of_decide_eq_true (by first | (with_reducible assumption) | assumption)
                          obtain ⟨ad157, A157_0, c157_0, e157, hx157_0, hl157_0, hi157_0⟩ := at_L7 (Kd.N_reads' HO_4.out).2.2 2 p157 q157
                          obtain rfl : ad152 = ad157 := (by injection e157)
                          obtain ⟨ce157, hce157, hMe157, hcc157⟩ := Kd.N_get HO_4.out [] 2 p157 (by first | exact q157 | exact of_decide_eq_true (by first | (with_reducible assumption) | assumption) | (have e_ := (Kd.N_reads' HO_4.out).1; omega))
                          obtain ⟨ua157_0, uc157_0, rfl, ul157_0, ge157_0⟩ := Kd.FK_slice_open hMe157
                          have hv157_0 := hcc157 0 _ rfl
                          rw [Nat.add_zero, show ((Kd.slice 40 k40)).sz = 1 from rfl, Nat.mul_one] at hv157_0
                          replace hv157_0 := Option.some.inj (hv157_0.symm.trans hx157_0)
                          injection hv157_0 with hva_ hvn_ hvc_
                          rw [hva_] at ge157_0
                          rw [hvc_] at ul157_0
                          have HL157_0 := Aside0.mk (show Kd.V k40 40 _ w.heap.size _ _ (rd_L7 t148 2) from Kd.V_mk ul157_0 ge157_0)
                          clear hva_ hvn_ hvc_ ge157_0 ul157_0
                          clear hcc157 hce157
                          (try simp only [show (2 : Int).toNat = 2 from rfl, Nat.reduceMul, Nat.reduceEqDiff, Go.Addr.add, ↓reduceIte] at hx157_0)
                          have qi157 : (2 < t148.length) = True := eq_true (by omega)
                          (try rw [show ((2 : Int)).toNat = 2 from rfl] at hx157_0)
                          have HR157_0 := Aside0.mk hi157_0
                          have HC157_0 := Aside0.mk hl157_0
                          clear hi157_0 hl157_0
                          replace p157 := eq_true p157
                          replace q157 := eq_true q157
                          go_wp2_with (first | ((with_reducible refine gate_callee (f := 15) rfl ?_); refine goesL_ (some 37) rfl rfl Tryd.func15 (by kernel_rfl) rfl #[.slice A157_0 (rd_L7 t148 2).length c157_0] rfl (by (try simp only [List.map_toArray, List.map_cons, List.map_nil]); first | done | rfl | (simp only [List.length_drop, List.length_take]; rfl) | (simp; done)) ?_; (with_reducible refine (version_told.calls _ _ (rd_L7 t148 2) t158 _ ?side1 ?side2 A16.out).mono ?_); (case side1 => repeat (first | exact (by repeat (first | (with_reducible exact HR157_0.out) | (with_reducible refine Kd.C_alloc ?_ _) | (with_reducible refine Kd.C_drewN ?_ _) | (with_reducible refine Kd.C_drew ?_) | exact HR157_0.out)) | (with_reducible refine Kd.C_alloc ?_ _) | (with_reducible refine Kd.C_drewN ?_ _) | (with_reducible refine Kd.C_drew ?_))); (case side2 => exact HC157_0.out); rintro e w24 ⟨rfl, hb⟩; refine ⟨_, rfl, ?_⟩; have n0_ := Aside0.mk (Kd.N_below (by (with_reducible repeat (first | apply Kd.N_alloc | apply Kd.N_drewN | apply Kd.N_drew)); exact HO_4.out) hb); have n1_ := Aside0.mk (Kd.V_below (by (with_reducible repeat (first | apply Kd.V_alloc | apply Kd.V_drewN | apply Kd.V_drew)); exact HL157_0.out) hb); have n2_ := Aside0.mk (Kd.C_below (by repeat (first | (with_reducible exact HR152_0.out) | (with_reducible refine Kd.C_alloc ?_ _) | (with_reducible refine Kd.C_drewN ?_ _) | (with_reducible refine Kd.C_drew ?_) | exact HR152_0.out)) hb); have n3_ := Aside0.mk (Kd.C_below (by repeat (first | (with_reducible exact HR157_0.out) | (with_reducible refine Kd.C_alloc ?_ _) | (with_reducible refine Kd.C_drewN ?_ _) | (with_reducible refine Kd.C_drew ?_) | exact HR157_0.out)) hb); have n4_ := Aside0.mk (below_step (by repeat (first | (with_reducible first | exact HB.out | apply below_alloc | apply pw_below_drewN | apply below_drew1) | exact HB.out)) hb); clear HO_4; clear HL157_0; clear HR152_0; clear HR157_0; clear HB; have HO_4 := n0_; have HL157_0 := n1_; have HR152_0 := n2_; have HR157_0 := n3_; have HB := n4_; clear n0_ n1_ n2_ n3_ n4_; (try clear hb); (try clear hb2); (try clear hk); (try clear hi); have p159 : 0 ≤ (0 : Int) := (by omega); have q159 : 0 < (t148.length : Int) := of_decide_eq_true (by first | (with_reducible assumption) | assumption); obtain ⟨ad159, A159_0, c159_0, e159, hx159_0, hl159_0, hi159_0⟩ := at_L7 (Kd.N_reads' HO_4.out).2.2 0 p159 q159; obtain rfl : ad152 = ad159 := (by injection e159); obtain ⟨ce159, hce159, hMe159, hcc159⟩ := Kd.N_get HO_4.out [] 0 p159 (by first | exact q159 | exact of_decide_eq_true (by first | (with_reducible assumption) | assumption) | (have e_ := (Kd.N_reads' HO_4.out).1; omega)); obtain ⟨ua159_0, uc159_0, rfl, ul159_0, ge159_0⟩ := Kd.FK_slice_open hMe159; have hv159_0 := hcc159 0 _ rfl; rw [Nat.add_zero, show ((Kd.slice 40 k40)).sz = 1 from rfl, Nat.mul_one] at hv159_0; replace hv159_0 := Option.some.inj (hv159_0.symm.trans hx159_0); injection hv159_0 with hva_ hvn_ hvc_; rw [hva_] at ge159_0; rw [hvc_] at ul159_0; have HL159_0 := Aside0.mk (show Kd.V k40 40 _ w.heap.size _ _ (rd_L7 t148 0) from Kd.V_mk ul159_0 ge159_0); clear hva_ hvn_ hvc_ ge159_0 ul159_0; clear hcc159 hce159; have qi159 : (0 < t148.length) = True := eq_true (by omega); (try rw [show ((0 : Int)).toNat = 0 from rfl] at hx159_0); (try rw [Addr.add_zero'] at hx159_0); have HR159_0 := Aside0.mk hi159_0; have HC159_0 := Aside0.mk hl159_0; clear hi159_0 hl159_0; replace p159 := eq_true p159; replace q159 := eq_true q159) | ((with_reducible refine gate_callee (f := 15) rfl ?_); refine goesL_ (some 51) rfl rfl Tryd.func15 (by kernel_rfl) rfl #[.slice A159_0 (rd_L7 t148 0).length c159_0] rfl (by (try simp only [List.map_toArray, List.map_cons, List.map_nil]); first | done | rfl | (simp only [List.length_drop, List.length_take]; rfl) | (simp; done)) ?_; (with_reducible refine (version_told.calls _ _ (rd_L7 t148 0) t160 _ ?side1 ?side2 A21.out).mono ?_); (case side1 => repeat (first | exact (by repeat (first | (with_reducible exact HR159_0.out) | (with_reducible refine Kd.C_alloc ?_ _) | (with_reducible refine Kd.C_drewN ?_ _) | (with_reducible refine Kd.C_drew ?_) | exact HR159_0.out)) | (with_reducible refine Kd.C_alloc ?_ _) | (with_reducible refine Kd.C_drewN ?_ _) | (with_reducible refine Kd.C_drew ?_))); (case side2 => exact HC159_0.out); rintro e w25 ⟨rfl, hb⟩; refine ⟨_, rfl, ?_⟩; have n0_ := Aside0.mk (Kd.N_below (by (with_reducible repeat (first | apply Kd.N_alloc | apply Kd.N_drewN | apply Kd.N_drew)); exact HO_4.out) hb); have n1_ := Aside0.mk (Kd.V_below (by (with_reducible repeat (first | apply Kd.V_alloc | apply Kd.V_drewN | apply Kd.V_drew)); exact HL157_0.out) hb); have n2_ := Aside0.mk (Kd.V_below (by (with_reducible repeat (first | apply Kd.V_alloc | apply Kd.V_drewN | apply Kd.V_drew)); exact HL159_0.out) hb); have n3_ := Aside0.mk (Kd.C_below (by repeat (first | (with_reducible exact HR152_0.out) | (with_reducible refine Kd.C_alloc ?_ _) | (with_reducible refine Kd.C_drewN ?_ _) | (with_reducible refine Kd.C_drew ?_) | exact HR152_0.out)) hb); have n4_ := Aside0.mk (Kd.C_below (by repeat (first | (with_reducible exact HR157_0.out) | (with_reducible refine Kd.C_alloc ?_ _) | (with_reducible refine Kd.C_drewN ?_ _) | (with_reducible refine Kd.C_drew ?_) | exact HR157_0.out)) hb); have n5_ := Aside0.mk (Kd.C_below (by repeat (first | (with_reducible exact HR159_0.out) | (with_reducible refine Kd.C_alloc ?_ _) | (with_reducible refine Kd.C_drewN ?_ _) | (with_reducible refine Kd.C_drew ?_) | exact HR159_0.out)) hb); have n6_ := Aside0.mk (below_step (by repeat (first | (with_reducible first | exact HB.out | apply below_alloc | apply pw_below_drewN | apply below_drew1) | exact HB.out)) hb); clear HO_4; clear HL157_0; clear HL159_0; clear HR152_0; clear HR157_0; clear HR159_0; clear HB; have HO_4 := n0_; have HL157_0 := n1_; have HL159_0 := n2_; have HR152_0 := n3_; have HR157_0 := n4_; have HR159_0 := n5_; have HB := n6_; clear n0_ n1_ n2_ n3_ n4_ n5_ n6_; (try clear hb); (try clear hb2); (try clear hk); (try clear hi)))
                          go_ret2
                          exact ⟨by first | rfl | (simp [errW_none, errW_some] <;> rfl) | (simp [*, errW_none, errW_some] <;> rfl) | (simp [errW_none, errW_some, Go.Proofs.YtcndnccobhgnlaaDoor.listNe]; done), by repeat (first | (with_reducible first | exact HB.out | apply below_alloc | apply pw_below_drewN | apply below_drew1) | exact HB.out)⟩
                        · rw [if_neg c23] at H
                          exact absurd H (by simp)
                      · rw [if_neg c22] at H
                        exact absurd H (by simp)
                    · rw [if_neg c20] at H
                      exact absurd H (by simp)
                  · replace c19 := Bool.eq_false_iff.mpr c19
                    subst c19
                    have H1 : (if 0 < (t148.length : Int) then (if ((rd_L7 t148 0).length : Int) > 0 then ((version_told.f (rd_L7 t148 0)).bind fun t163 => (if t163.size + 1 ≤ 9223372036854775807 then (if (t163 ++ (⟨#[58]⟩ : ByteArray)).size + (t153 ++ ((⟨#[45]⟩ : ByteArray) ++ t158)).size ≤ 9223372036854775807 then (some ((t163 ++ (⟨#[58]⟩ : ByteArray)) ++ (t153 ++ ((⟨#[45]⟩ : ByteArray) ++ t158)), 0)) else (none)) else (none))) else (some (t153 ++ ((⟨#[45]⟩ : ByteArray) ++ t158), 0))) else (none)) = some (r1, r2) := by rw [if_neg (show ¬ (false = true) by decide)] at H; exact H
                    clear H
                    have H := H1
                    clear H1
                    by_cases c26 : 0 < (t148.length : Int)
                    · rw [if_pos c26] at H
                      have c26b0 : decide (0 < (t148.length : Int)) = true := decide_eq_true c26
                      have c26b1 : decide (0 < t148.length) = true := decide_eq_true (by omega)
                      clear c26
                      by_cases c27 : ((rd_L7 t148 0).length : Int) > 0
                      · rw [if_pos c27] at H
                        have c27b0 : decide (0 < ((rd_L7 t148 0).length : Int)) = true := decide_eq_true c27
                        have c27b1 : decide (0 < (rd_L7 t148 0).length) = true := decide_eq_true (by omega)
                        clear c27
                        replace H := Option.bind_eq_some_iff.mp H
                        obtain ⟨t163, A280, H⟩ := H
                        replace H : (if t163.size + 1 ≤ 9223372036854775807 then (if (t163 ++ (⟨#[58]⟩ : ByteArray)).size + (t153 ++ ((⟨#[45]⟩ : ByteArray) ++ t158)).size ≤ 9223372036854775807 then (some ((t163 ++ (⟨#[58]⟩ : ByteArray)) ++ (t153 ++ ((⟨#[45]⟩ : ByteArray) ++ t158)), 0)) else (none)) else (none)) = some (r1, r2) := H
                        have A28 := Aside0.mk A280
                        clear A280
                        by_cases c29 : t163.size + 1 ≤ 9223372036854775807
                        · rw [if_pos c29] at H
                          have c29b0 := eq_true c29
                          have c29b1 : decide (t163.size + 1 ≤ 9223372036854775807) = true := decide_eq_true c29
                          try have c29b2 : (9223372036854775807 < t163.size + 1) = False := eq_false (Nat.not_lt.2 c29)
                          try (have c29b3 := c29b2; simp only [ByteArray.size_append', ByteArray.size_mk', List.size_toArray, List.length_cons, List.length_nil, Nat.reduceAdd] at c29b3)
                          by_cases c30 : (t163 ++ (⟨#[58]⟩ : ByteArray)).size + (t153 ++ ((⟨#[45]⟩ : ByteArray) ++ t158)).size ≤ 9223372036854775807
                          · rw [if_pos c30] at H
                            have c30b0 := eq_true c30
                            have c30b1 : decide ((t163 ++ (⟨#[58]⟩ : ByteArray)).size + (t153 ++ ((⟨#[45]⟩ : ByteArray) ++ t158)).size ≤ 9223372036854775807) = true := decide_eq_true c30
                            try have c30b2 : (9223372036854775807 < (t163 ++ (⟨#[58]⟩ : ByteArray)).size + (t153 ++ ((⟨#[45]⟩ : ByteArray) ++ t158)).size) = False := eq_false (Nat.not_lt.2 c30)
                            try (have c30b3 := c30b2; simp only [ByteArray.size_append', ByteArray.size_mk', List.size_toArray, List.length_cons, List.length_nil, Nat.reduceAdd] at c30b3)
                            simp only [Option.some.injEq, Prod.mk.injEq] at H
                            obtain ⟨rfl, rfl⟩ := H
                            have p157 : 0 ≤ (2 : Int) := (by omega)
                            have q157 : 2 < (t148.length : Int) := of_decide_eq_true (by first | (with_reducible assumption) | assumption)
                            obtain ⟨ad157, A157_0, c157_0, e157, hx157_0, hl157_0, hi157_0⟩ := at_L7 (Kd.N_reads' HO_4.out).2.2 2 p157 q157
                            obtain rfl : ad152 = ad157 := (by injection e157)
                            obtain ⟨ce157, hce157, hMe157, hcc157⟩ := Kd.N_get HO_4.out [] 2 p157 (by first | exact q157 | exact of_decide_eq_true (by first | (with_reducible assumption) | assumption) | (have e_ := (Kd.N_reads' HO_4.out).1; omega))
                            obtain ⟨ua157_0, uc157_0, rfl, ul157_0, ge157_0⟩ := Kd.FK_slice_open hMe157
                            have hv157_0 := hcc157 0 _ rfl
                            rw [Nat.add_zero, show ((Kd.slice 40 k40)).sz = 1 from rfl, Nat.mul_one] at hv157_0
                            replace hv157_0 := Option.some.inj (hv157_0.symm.trans hx157_0)
                            injection hv157_0 with hva_ hvn_ hvc_
                            rw [hva_] at ge157_0
                            rw [hvc_] at ul157_0
                            have HL157_0 := Aside0.mk (show Kd.V k40 40 _ w.heap.size _ _ (rd_L7 t148 2) from Kd.V_mk ul157_0 ge157_0)
                            clear hva_ hvn_ hvc_ ge157_0 ul157_0
                            clear hcc157 hce157
                            (try simp only [show (2 : Int).toNat = 2 from rfl, Nat.reduceMul, Nat.reduceEqDiff, Go.Addr.add, ↓reduceIte] at hx157_0)
                            have qi157 : (2 < t148.length) = True := eq_true (by omega)
                            (try rw [show ((2 : Int)).toNat = 2 from rfl] at hx157_0)
                            have HR157_0 := Aside0.mk hi157_0
                            have HC157_0 := Aside0.mk hl157_0
                            clear hi157_0 hl157_0
                            replace p157 := eq_true p157
                            replace q157 := eq_true q157
                            go_wp2_with (first | ((with_reducible refine gate_callee (f := 15) rfl ?_); refine goesL_ (some 37) rfl rfl Tryd.func15 (by kernel_rfl) rfl #[.slice A157_0 (rd_L7 t148 2).length c157_0] rfl (by (try simp only [List.map_toArray, List.map_cons, List.map_nil]); first | done | rfl | (simp only [List.length_drop, List.length_take]; rfl) | (simp; done)) ?_; (with_reducible refine (version_told.calls _ _ (rd_L7 t148 2) t158 _ ?side1 ?side2 A16.out).mono ?_); (case side1 => repeat (first | exact (by repeat (first | (with_reducible exact HR157_0.out) | (with_reducible refine Kd.C_alloc ?_ _) | (with_reducible refine Kd.C_drewN ?_ _) | (with_reducible refine Kd.C_drew ?_) | exact HR157_0.out)) | (with_reducible refine Kd.C_alloc ?_ _) | (with_reducible refine Kd.C_drewN ?_ _) | (with_reducible refine Kd.C_drew ?_))); (case side2 => exact HC157_0.out); rintro e w31 ⟨rfl, hb⟩; refine ⟨_, rfl, ?_⟩; have n0_ := Aside0.mk (Kd.N_below (by (with_reducible repeat (first | apply Kd.N_alloc | apply Kd.N_drewN | apply Kd.N_drew)); exact HO_4.out) hb); have n1_ := Aside0.mk (Kd.V_below (by (with_reducible repeat (first | apply Kd.V_alloc | apply Kd.V_drewN | apply Kd.V_drew)); exact HL157_0.out) hb); have n2_ := Aside0.mk (Kd.C_below (by repeat (first | (with_reducible exact HR152_0.out) | (with_reducible refine Kd.C_alloc ?_ _) | (with_reducible refine Kd.C_drewN ?_ _) | (with_reducible refine Kd.C_drew ?_) | exact HR152_0.out)) hb); have n3_ := Aside0.mk (Kd.C_below (by repeat (first | (with_reducible exact HR157_0.out) | (with_reducible refine Kd.C_alloc ?_ _) | (with_reducible refine Kd.C_drewN ?_ _) | (with_reducible refine Kd.C_drew ?_) | exact HR157_0.out)) hb); have n4_ := Aside0.mk (below_step (by repeat (first | (with_reducible first | exact HB.out | apply below_alloc | apply pw_below_drewN | apply below_drew1) | exact HB.out)) hb); clear HO_4; clear HL157_0; clear HR152_0; clear HR157_0; clear HB; have HO_4 := n0_; have HL157_0 := n1_; have HR152_0 := n2_; have HR157_0 := n3_; have HB := n4_; clear n0_ n1_ n2_ n3_ n4_; (try clear hb); (try clear hb2); (try clear hk); (try clear hi); have p161 : 0 ≤ (0 : Int) := (by omega); have q161 : 0 < (t148.length : Int) := of_decide_eq_true (by first | (with_reducible assumption) | assumption); obtain ⟨ad161, A161_0, c161_0, e161, hx161_0, hl161_0, hi161_0⟩ := at_L7 (Kd.N_reads' HO_4.out).2.2 0 p161 q161; obtain rfl : ad152 = ad161 := (by injection e161); obtain ⟨ce161, hce161, hMe161, hcc161⟩ := Kd.N_get HO_4.out [] 0 p161 (by first | exact q161 | exact of_decide_eq_true (by first | (with_reducible assumption) | assumption) | (have e_ := (Kd.N_reads' HO_4.out).1; omega)); obtain ⟨ua161_0, uc161_0, rfl, ul161_0, ge161_0⟩ := Kd.FK_slice_open hMe161; have hv161_0 := hcc161 0 _ rfl; rw [Nat.add_zero, show ((Kd.slice 40 k40)).sz = 1 from rfl, Nat.mul_one] at hv161_0; replace hv161_0 := Option.some.inj (hv161_0.symm.trans hx161_0); injection hv161_0 with hva_ hvn_ hvc_; rw [hva_] at ge161_0; rw [hvc_] at ul161_0; have HL161_0 := Aside0.mk (show Kd.V k40 40 _ w.heap.size _ _ (rd_L7 t148 0) from Kd.V_mk ul161_0 ge161_0); clear hva_ hvn_ hvc_ ge161_0 ul161_0; clear hcc161 hce161; have qi161 : (0 < t148.length) = True := eq_true (by omega); (try rw [show ((0 : Int)).toNat = 0 from rfl] at hx161_0); (try rw [Addr.add_zero'] at hx161_0); have HR161_0 := Aside0.mk hi161_0; have HC161_0 := Aside0.mk hl161_0; clear hi161_0 hl161_0; replace p161 := eq_true p161; replace q161 := eq_true q161; have p162 : 0 ≤ (0 : Int) := (by omega); have q162 : 0 < (t148.length : Int) := of_decide_eq_true (by first | (with_reducible assumption) | assumption); obtain ⟨ad162, A162_0, c162_0, e162, hx162_0, hl162_0, hi162_0⟩ := at_L7 (Kd.N_reads' HO_4.out).2.2 0 p162 q162; obtain rfl : ad152 = ad162 := (by injection e162); obtain ⟨ce162, hce162, hMe162, hcc162⟩ := Kd.N_get HO_4.out [] 0 p162 (by first | exact q162 | exact of_decide_eq_true (by first | (with_reducible assumption) | assumption) | (have e_ := (Kd.N_reads' HO_4.out).1; omega)); obtain ⟨ua162_0, uc162_0, rfl, ul162_0, ge162_0⟩ := Kd.FK_slice_open hMe162; have hv162_0 := hcc162 0 _ rfl; rw [Nat.add_zero, show ((Kd.slice 40 k40)).sz = 1 from rfl, Nat.mul_one] at hv162_0; replace hv162_0 := Option.some.inj (hv162_0.symm.trans hx162_0); injection hv162_0 with hva_ hvn_ hvc_; rw [hva_] at ge162_0; rw [hvc_] at ul162_0; have HL162_0 := Aside0.mk (show Kd.V k40 40 _ w.heap.size _ _ (rd_L7 t148 0) from Kd.V_mk ul162_0 ge162_0); clear hva_ hvn_ hvc_ ge162_0 ul162_0; clear hcc162 hce162; have qi162 : (0 < t148.length) = True := eq_true (by omega); (try rw [show ((0 : Int)).toNat = 0 from rfl] at hx162_0); (try rw [Addr.add_zero'] at hx162_0); have HR162_0 := Aside0.mk hi162_0; have HC162_0 := Aside0.mk hl162_0; clear hi162_0 hl162_0; replace p162 := eq_true p162; replace q162 := eq_true q162; have ea_ := Option.some.inj (hx161_0.symm.trans hx162_0); injection ea_ with ea_ en_ ec_; subst ea_; subst ec_; clear en_) | ((with_reducible refine gate_callee (f := 15) rfl ?_); refine goesL_ (some 51) rfl rfl Tryd.func15 (by kernel_rfl) rfl #[.slice A161_0 (rd_L7 t148 0).length c161_0] rfl (by (try simp only [List.map_toArray, List.map_cons, List.map_nil]); first | done | rfl | (simp only [List.length_drop, List.length_take]; rfl) | (simp; done)) ?_; (with_reducible refine (version_told.calls _ _ (rd_L7 t148 0) t163 _ ?side1 ?side2 A28.out).mono ?_); (case side1 => repeat (first | exact (by repeat (first | (with_reducible exact HR162_0.out) | (with_reducible refine Kd.C_alloc ?_ _) | (with_reducible refine Kd.C_drewN ?_ _) | (with_reducible refine Kd.C_drew ?_) | exact HR162_0.out)) | (with_reducible refine Kd.C_alloc ?_ _) | (with_reducible refine Kd.C_drewN ?_ _) | (with_reducible refine Kd.C_drew ?_))); (case side2 => exact HC162_0.out); rintro e w32 ⟨rfl, hb⟩; refine ⟨_, rfl, ?_⟩; have n0_ := Aside0.mk (Kd.N_below (by (with_reducible repeat (first | apply Kd.N_alloc | apply Kd.N_drewN | apply Kd.N_drew)); exact HO_4.out) hb); have n1_ := Aside0.mk (Kd.V_below (by (with_reducible repeat (first | apply Kd.V_alloc | apply Kd.V_drewN | apply Kd.V_drew)); exact HL157_0.out) hb); have n2_ := Aside0.mk (Kd.V_below (by (with_reducible repeat (first | apply Kd.V_alloc | apply Kd.V_drewN | apply Kd.V_drew)); exact HL161_0.out) hb); have n3_ := Aside0.mk (Kd.V_below (by (with_reducible repeat (first | apply Kd.V_alloc | apply Kd.V_drewN | apply Kd.V_drew)); exact HL162_0.out) hb); have n4_ := Aside0.mk (Kd.C_below (by repeat (first | (with_reducible exact HR152_0.out) | (with_reducible refine Kd.C_alloc ?_ _) | (with_reducible refine Kd.C_drewN ?_ _) | (with_reducible refine Kd.C_drew ?_) | exact HR152_0.out)) hb); have n5_ := Aside0.mk (Kd.C_below (by repeat (first | (with_reducible exact HR157_0.out) | (with_reducible refine Kd.C_alloc ?_ _) | (with_reducible refine Kd.C_drewN ?_ _) | (with_reducible refine Kd.C_drew ?_) | exact HR157_0.out)) hb); have n6_ := Aside0.mk (Kd.C_below (by repeat (first | (with_reducible exact HR161_0.out) | (with_reducible refine Kd.C_alloc ?_ _) | (with_reducible refine Kd.C_drewN ?_ _) | (with_reducible refine Kd.C_drew ?_) | exact HR161_0.out)) hb); have n7_ := Aside0.mk (Kd.C_below (by repeat (first | (with_reducible exact HR162_0.out) | (with_reducible refine Kd.C_alloc ?_ _) | (with_reducible refine Kd.C_drewN ?_ _) | (with_reducible refine Kd.C_drew ?_) | exact HR162_0.out)) hb); have n8_ := Aside0.mk (below_step (by repeat (first | (with_reducible first | exact HB.out | apply below_alloc | apply pw_below_drewN | apply below_drew1) | exact HB.out)) hb); clear HO_4; clear HL157_0; clear HL161_0; clear HL162_0; clear HR152_0; clear HR157_0; clear HR161_0; clear HR162_0; clear HB; have HO_4 := n0_; have HL157_0 := n1_; have HL161_0 := n2_; have HL162_0 := n3_; have HR152_0 := n4_; have HR157_0 := n5_; have HR161_0 := n6_; have HR162_0 := n7_; have HB := n8_; clear n0_ n1_ n2_ n3_ n4_ n5_ n6_ n7_ n8_; (try clear hb); (try clear hb2); (try clear hk); (try clear hi)))
                            go_ret2
                            exact ⟨by first | rfl | (simp [errW_none, errW_some] <;> rfl) | (simp [*, errW_none, errW_some] <;> rfl) | (simp [errW_none, errW_some, Go.Proofs.YtcndnccobhgnlaaDoor.listNe]; done), by repeat (first | (with_reducible first | exact HB.out | apply below_alloc | apply pw_below_drewN | apply below_drew1) | exact HB.out)⟩
                          · rw [if_neg c30] at H
                            exact absurd H (by simp)
                        · rw [if_neg c29] at H
                          exact absurd H (by simp)
                      · rw [if_neg c27] at H
                        have c27b0 : decide (0 < ((rd_L7 t148 0).length : Int)) = false := decide_eq_false c27
                        have c27b1 : decide (0 < (rd_L7 t148 0).length) = false := decide_eq_false (by omega)
                        clear c27
                        simp only [Option.some.injEq, Prod.mk.injEq] at H
                        obtain ⟨rfl, rfl⟩ := H
                        have p157 : 0 ≤ (2 : Int) := (by omega)
                        have q157 : 2 < (t148.length : Int) := of_decide_eq_true (by first | (with_reducible assumption) | assumption)
                        obtain ⟨ad157, A157_0, c157_0, e157, hx157_0, hl157_0, hi157_0⟩ := at_L7 (Kd.N_reads' HO_4.out).2.2 2 p157 q157
                        obtain rfl : ad152 = ad157 := (by injection e157)
                        obtain ⟨ce157, hce157, hMe157, hcc157⟩ := Kd.N_get HO_4.out [] 2 p157 (by first | exact q157 | exact of_decide_eq_true (by first | (with_reducible assumption) | assumption) | (have e_ := (Kd.N_reads' HO_4.out).1; omega))
                        obtain ⟨ua157_0, uc157_0, rfl, ul157_0, ge157_0⟩ := Kd.FK_slice_open hMe157
                        have hv157_0 := hcc157 0 _ rfl
                        rw [Nat.add_zero, show ((Kd.slice 40 k40)).sz = 1 from rfl, Nat.mul_one] at hv157_0
                        replace hv157_0 := Option.some.inj (hv157_0.symm.trans hx157_0)
                        injection hv157_0 with hva_ hvn_ hvc_
                        rw [hva_] at ge157_0
                        rw [hvc_] at ul157_0
                        have HL157_0 := Aside0.mk (show Kd.V k40 40 _ w.heap.size _ _ (rd_L7 t148 2) from Kd.V_mk ul157_0 ge157_0)
                        clear hva_ hvn_ hvc_ ge157_0 ul157_0
                        clear hcc157 hce157
                        (try simp only [show (2 : Int).toNat = 2 from rfl, Nat.reduceMul, Nat.reduceEqDiff, Go.Addr.add, ↓reduceIte] at hx157_0)
                        have qi157 : (2 < t148.length) = True := eq_true (by omega)
                        (try rw [show ((2 : Int)).toNat = 2 from rfl] at hx157_0)
                        have HR157_0 := Aside0.mk hi157_0
                        have HC157_0 := Aside0.mk hl157_0
                        clear hi157_0 hl157_0
                        replace p157 := eq_true p157
                        replace q157 := eq_true q157
                        go_wp2_with (first | ((with_reducible refine gate_callee (f := 15) rfl ?_); refine goesL_ (some 37) rfl rfl Tryd.func15 (by kernel_rfl) rfl #[.slice A157_0 (rd_L7 t148 2).length c157_0] rfl (by (try simp only [List.map_toArray, List.map_cons, List.map_nil]); first | done | rfl | (simp only [List.length_drop, List.length_take]; rfl) | (simp; done)) ?_; (with_reducible refine (version_told.calls _ _ (rd_L7 t148 2) t158 _ ?side1 ?side2 A16.out).mono ?_); (case side1 => repeat (first | exact (by repeat (first | (with_reducible exact HR157_0.out) | (with_reducible refine Kd.C_alloc ?_ _) | (with_reducible refine Kd.C_drewN ?_ _) | (with_reducible refine Kd.C_drew ?_) | exact HR157_0.out)) | (with_reducible refine Kd.C_alloc ?_ _) | (with_reducible refine Kd.C_drewN ?_ _) | (with_reducible refine Kd.C_drew ?_))); (case side2 => exact HC157_0.out); rintro e w33 ⟨rfl, hb⟩; refine ⟨_, rfl, ?_⟩; have n0_ := Aside0.mk (Kd.N_below (by (with_reducible repeat (first | apply Kd.N_alloc | apply Kd.N_drewN | apply Kd.N_drew)); exact HO_4.out) hb); have n1_ := Aside0.mk (Kd.V_below (by (with_reducible repeat (first | apply Kd.V_alloc | apply Kd.V_drewN | apply Kd.V_drew)); exact HL157_0.out) hb); have n2_ := Aside0.mk (Kd.C_below (by repeat (first | (with_reducible exact HR152_0.out) | (with_reducible refine Kd.C_alloc ?_ _) | (with_reducible refine Kd.C_drewN ?_ _) | (with_reducible refine Kd.C_drew ?_) | exact HR152_0.out)) hb); have n3_ := Aside0.mk (Kd.C_below (by repeat (first | (with_reducible exact HR157_0.out) | (with_reducible refine Kd.C_alloc ?_ _) | (with_reducible refine Kd.C_drewN ?_ _) | (with_reducible refine Kd.C_drew ?_) | exact HR157_0.out)) hb); have n4_ := Aside0.mk (below_step (by repeat (first | (with_reducible first | exact HB.out | apply below_alloc | apply pw_below_drewN | apply below_drew1) | exact HB.out)) hb); clear HO_4; clear HL157_0; clear HR152_0; clear HR157_0; clear HB; have HO_4 := n0_; have HL157_0 := n1_; have HR152_0 := n2_; have HR157_0 := n3_; have HB := n4_; clear n0_ n1_ n2_ n3_ n4_; (try clear hb); (try clear hb2); (try clear hk); (try clear hi); have p161 : 0 ≤ (0 : Int) := (by omega); have q161 : 0 < (t148.length : Int) := of_decide_eq_true (by first | (with_reducible assumption) | assumption); obtain ⟨ad161, A161_0, c161_0, e161, hx161_0, hl161_0, hi161_0⟩ := at_L7 (Kd.N_reads' HO_4.out).2.2 0 p161 q161; obtain rfl : ad152 = ad161 := (by injection e161); obtain ⟨ce161, hce161, hMe161, hcc161⟩ := Kd.N_get HO_4.out [] 0 p161 (by first | exact q161 | exact of_decide_eq_true (by first | (with_reducible assumption) | assumption) | (have e_ := (Kd.N_reads' HO_4.out).1; omega)); obtain ⟨ua161_0, uc161_0, rfl, ul161_0, ge161_0⟩ := Kd.FK_slice_open hMe161; have hv161_0 := hcc161 0 _ rfl; rw [Nat.add_zero, show ((Kd.slice 40 k40)).sz = 1 from rfl, Nat.mul_one] at hv161_0; replace hv161_0 := Option.some.inj (hv161_0.symm.trans hx161_0); injection hv161_0 with hva_ hvn_ hvc_; rw [hva_] at ge161_0; rw [hvc_] at ul161_0; have HL161_0 := Aside0.mk (show Kd.V k40 40 _ w.heap.size _ _ (rd_L7 t148 0) from Kd.V_mk ul161_0 ge161_0); clear hva_ hvn_ hvc_ ge161_0 ul161_0; clear hcc161 hce161; have qi161 : (0 < t148.length) = True := eq_true (by omega); (try rw [show ((0 : Int)).toNat = 0 from rfl] at hx161_0); (try rw [Addr.add_zero'] at hx161_0); have HR161_0 := Aside0.mk hi161_0; have HC161_0 := Aside0.mk hl161_0; clear hi161_0 hl161_0; replace p161 := eq_true p161; replace q161 := eq_true q161))
                        go_ret2
                        exact ⟨by first | rfl | (simp [errW_none, errW_some] <;> rfl) | (simp [*, errW_none, errW_some] <;> rfl) | (simp [errW_none, errW_some, Go.Proofs.YtcndnccobhgnlaaDoor.listNe]; done), by repeat (first | (with_reducible first | exact HB.out | apply below_alloc | apply pw_below_drewN | apply below_drew1) | exact HB.out)⟩
                    · rw [if_neg c26] at H
                      exact absurd H (by simp)
                · rw [if_neg c18] at H
                  exact absurd H (by simp)
              · rw [if_neg c17] at H
                exact absurd H (by simp)
            · rw [if_neg c15] at H
              exact absurd H (by simp)
          · replace c14 := Bool.eq_false_iff.mpr c14
            subst c14
            have H1 : (if t155 = true then (if 0 < (t148.length : Int) then ((version_told.f (rd_L7 t148 0)).bind fun t165 => (if t165.size + 1 ≤ 9223372036854775807 then (if (t165 ++ (⟨#[58]⟩ : ByteArray)).size + t153.size ≤ 9223372036854775807 then (some ((t165 ++ (⟨#[58]⟩ : ByteArray)) ++ t153, 0)) else (none)) else (none))) else (none)) else (if 0 < (t148.length : Int) then (if ((rd_L7 t148 0).length : Int) > 0 then ((version_told.f (rd_L7 t148 0)).bind fun t168 => (if t168.size + 1 ≤ 9223372036854775807 then (if (t168 ++ (⟨#[58]⟩ : ByteArray)).size + t153.size ≤ 9223372036854775807 then (some ((t168 ++ (⟨#[58]⟩ : ByteArray)) ++ t153, 0)) else (none)) else (none))) else (some (t153, 0))) else (none))) = some (r1, r2) := by rw [if_neg (show ¬ (false = true) by decide)] at H; exact H
            clear H
            have H := H1
            clear H1
            by_cases c34 : t155 = true
            · subst c34
              have H1 : (if 0 < (t148.length : Int) then ((version_told.f (rd_L7 t148 0)).bind fun t165 => (if t165.size + 1 ≤ 9223372036854775807 then (if (t165 ++ (⟨#[58]⟩ : ByteArray)).size + t153.size ≤ 9223372036854775807 then (some ((t165 ++ (⟨#[58]⟩ : ByteArray)) ++ t153, 0)) else (none)) else (none))) else (none)) = some (r1, r2) := by rw [if_pos rfl] at H; exact H
              clear H
              have H := H1
              clear H1
              by_cases c35 : 0 < (t148.length : Int)
              · rw [if_pos c35] at H
                have c35b0 : decide (0 < (t148.length : Int)) = true := decide_eq_true c35
                have c35b1 : decide (0 < t148.length) = true := decide_eq_true (by omega)
                clear c35
                replace H := Option.bind_eq_some_iff.mp H
                obtain ⟨t165, A360, H⟩ := H
                replace H : (if t165.size + 1 ≤ 9223372036854775807 then (if (t165 ++ (⟨#[58]⟩ : ByteArray)).size + t153.size ≤ 9223372036854775807 then (some ((t165 ++ (⟨#[58]⟩ : ByteArray)) ++ t153, 0)) else (none)) else (none)) = some (r1, r2) := H
                have A36 := Aside0.mk A360
                clear A360
                by_cases c37 : t165.size + 1 ≤ 9223372036854775807
                · rw [if_pos c37] at H
                  have c37b0 := eq_true c37
                  have c37b1 : decide (t165.size + 1 ≤ 9223372036854775807) = true := decide_eq_true c37
                  try have c37b2 : (9223372036854775807 < t165.size + 1) = False := eq_false (Nat.not_lt.2 c37)
                  try (have c37b3 := c37b2; simp only [ByteArray.size_append', ByteArray.size_mk', List.size_toArray, List.length_cons, List.length_nil, Nat.reduceAdd] at c37b3)
                  by_cases c38 : (t165 ++ (⟨#[58]⟩ : ByteArray)).size + t153.size ≤ 9223372036854775807
                  · rw [if_pos c38] at H
                    have c38b0 := eq_true c38
                    have c38b1 : decide ((t165 ++ (⟨#[58]⟩ : ByteArray)).size + t153.size ≤ 9223372036854775807) = true := decide_eq_true c38
                    try have c38b2 : (9223372036854775807 < (t165 ++ (⟨#[58]⟩ : ByteArray)).size + t153.size) = False := eq_false (Nat.not_lt.2 c38)
                    try (have c38b3 := c38b2; simp only [ByteArray.size_append', ByteArray.size_mk', List.size_toArray, List.length_cons, List.length_nil, Nat.reduceAdd] at c38b3)
                    simp only [Option.some.injEq, Prod.mk.injEq] at H
                    obtain ⟨rfl, rfl⟩ := H
                    have p164 : 0 ≤ (0 : Int) := (by omega)
                    have q164 : 0 < (t148.length : Int) := of_decide_eq_true (by first | (with_reducible assumption) | assumption)
                    obtain ⟨ad164, A164_0, c164_0, e164, hx164_0, hl164_0, hi164_0⟩ := at_L7 (Kd.N_reads' HO_4.out).2.2 0 p164 q164
                    obtain rfl : ad152 = ad164 := (by injection e164)
                    obtain ⟨ce164, hce164, hMe164, hcc164⟩ := Kd.N_get HO_4.out [] 0 p164 (by first | exact q164 | exact of_decide_eq_true (by first | (with_reducible assumption) | assumption) | (have e_ := (Kd.N_reads' HO_4.out).1; omega))
                    obtain ⟨ua164_0, uc164_0, rfl, ul164_0, ge164_0⟩ := Kd.FK_slice_open hMe164
                    have hv164_0 := hcc164 0 _ rfl
                    rw [Nat.add_zero, show ((Kd.slice 40 k40)).sz = 1 from rfl, Nat.mul_one] at hv164_0
                    replace hv164_0 := Option.some.inj (hv164_0.symm.trans hx164_0)
                    injection hv164_0 with hva_ hvn_ hvc_
                    rw [hva_] at ge164_0
                    rw [hvc_] at ul164_0
                    have HL164_0 := Aside0.mk (show Kd.V k40 40 _ w.heap.size _ _ (rd_L7 t148 0) from Kd.V_mk ul164_0 ge164_0)
                    clear hva_ hvn_ hvc_ ge164_0 ul164_0
                    clear hcc164 hce164
                    have qi164 : (0 < t148.length) = True := eq_true (by omega)
                    (try rw [show ((0 : Int)).toNat = 0 from rfl] at hx164_0)
                    (try rw [Addr.add_zero'] at hx164_0)
                    have HR164_0 := Aside0.mk hi164_0
                    have HC164_0 := Aside0.mk hl164_0
                    clear hi164_0 hl164_0
                    replace p164 := eq_true p164
                    replace q164 := eq_true q164
                    go_wp2_with (first | ((with_reducible refine gate_callee (f := 15) rfl ?_); refine goesL_ (some 51) rfl rfl Tryd.func15 (by kernel_rfl) rfl #[.slice A164_0 (rd_L7 t148 0).length c164_0] rfl (by (try simp only [List.map_toArray, List.map_cons, List.map_nil]); first | done | rfl | (simp only [List.length_drop, List.length_take]; rfl) | (simp; done)) ?_; (with_reducible refine (version_told.calls _ _ (rd_L7 t148 0) t165 _ ?side1 ?side2 A36.out).mono ?_); (case side1 => repeat (first | exact (by repeat (first | (with_reducible exact HR164_0.out) | (with_reducible refine Kd.C_alloc ?_ _) | (with_reducible refine Kd.C_drewN ?_ _) | (with_reducible refine Kd.C_drew ?_) | exact HR164_0.out)) | (with_reducible refine Kd.C_alloc ?_ _) | (with_reducible refine Kd.C_drewN ?_ _) | (with_reducible refine Kd.C_drew ?_))); (case side2 => exact HC164_0.out); rintro e w39 ⟨rfl, hb⟩; refine ⟨_, rfl, ?_⟩; have n0_ := Aside0.mk (Kd.N_below (by (with_reducible repeat (first | apply Kd.N_alloc | apply Kd.N_drewN | apply Kd.N_drew)); exact HO_4.out) hb); have n1_ := Aside0.mk (Kd.V_below (by (with_reducible repeat (first | apply Kd.V_alloc | apply Kd.V_drewN | apply Kd.V_drew)); exact HL164_0.out) hb); have n2_ := Aside0.mk (Kd.C_below (by repeat (first | (with_reducible exact HR152_0.out) | (with_reducible refine Kd.C_alloc ?_ _) | (with_reducible refine Kd.C_drewN ?_ _) | (with_reducible refine Kd.C_drew ?_) | exact HR152_0.out)) hb); have n3_ := Aside0.mk (Kd.C_below (by repeat (first | (with_reducible exact HR164_0.out) | (with_reducible refine Kd.C_alloc ?_ _) | (with_reducible refine Kd.C_drewN ?_ _) | (with_reducible refine Kd.C_drew ?_) | exact HR164_0.out)) hb); have n4_ := Aside0.mk (below_step (by repeat (first | (with_reducible first | exact HB.out | apply below_alloc | apply pw_below_drewN | apply below_drew1) | exact HB.out)) hb); clear HO_4; clear HL164_0; clear HR152_0; clear HR164_0; clear HB; have HO_4 := n0_; have HL164_0 := n1_; have HR152_0 := n2_; have HR164_0 := n3_; have HB := n4_; clear n0_ n1_ n2_ n3_ n4_; (try clear hb); (try clear hb2); (try clear hk); (try clear hi)))
                    go_ret2
                    exact ⟨by first | rfl | (simp [errW_none, errW_some] <;> rfl) | (simp [*, errW_none, errW_some] <;> rfl) | (simp [errW_none, errW_some, Go.Proofs.YtcndnccobhgnlaaDoor.listNe]; done), by repeat (first | (with_reducible first | exact HB.out | apply below_alloc | apply pw_below_drewN | apply below_drew1) | exact HB.out)⟩
                  · rw [if_neg c38] at H
                    exact absurd H (by simp)
                · rw [if_neg c37] at H
                  exact absurd H (by simp)
              · rw [if_neg c35] at H
                exact absurd H (by simp)
            · replace c34 := Bool.eq_false_iff.mpr c34
              subst c34
              have H1 : (if 0 < (t148.length : Int) then (if ((rd_L7 t148 0).length : Int) > 0 then ((version_told.f (rd_L7 t148 0)).bind fun t168 => (if t168.size + 1 ≤ 9223372036854775807 then (if (t168 ++ (⟨#[58]⟩ : ByteArray)).size + t153.size ≤ 9223372036854775807 then (some ((t168 ++ (⟨#[58]⟩ : ByteArray)) ++ t153, 0)) else (none)) else (none))) else (some (t153, 0))) else (none)) = some (r1, r2) := by rw [if_neg (show ¬ (false = true) by decide)] at H; exact H
              clear H
              have H := H1
              clear H1
              by_cases c40 : 0 < (t148.length : Int)
              · rw [if_pos c40] at H
                have c40b0 : decide (0 < (t148.length : Int)) = true := decide_eq_true c40
                have c40b1 : decide (0 < t148.length) = true := decide_eq_true (by omega)
                clear c40
                by_cases c41 : ((rd_L7 t148 0).length : Int) > 0
                · rw [if_pos c41] at H
                  have c41b0 : decide (0 < ((rd_L7 t148 0).length : Int)) = true := decide_eq_true c41
                  have c41b1 : decide (0 < (rd_L7 t148 0).length) = true := decide_eq_true (by omega)
                  clear c41
                  replace H := Option.bind_eq_some_iff.mp H
                  obtain ⟨t168, A420, H⟩ := H
                  replace H : (if t168.size + 1 ≤ 9223372036854775807 then (if (t168 ++ (⟨#[58]⟩ : ByteArray)).size + t153.size ≤ 9223372036854775807 then (some ((t168 ++ (⟨#[58]⟩ : ByteArray)) ++ t153, 0)) else (none)) else (none)) = some (r1, r2) := H
                  have A42 := Aside0.mk A420
                  clear A420
                  by_cases c43 : t168.size + 1 ≤ 9223372036854775807
                  · rw [if_pos c43] at H
                    have c43b0 := eq_true c43
                    have c43b1 : decide (t168.size + 1 ≤ 9223372036854775807) = true := decide_eq_true c43
                    try have c43b2 : (9223372036854775807 < t168.size + 1) = False := eq_false (Nat.not_lt.2 c43)
                    try (have c43b3 := c43b2; simp only [ByteArray.size_append', ByteArray.size_mk', List.size_toArray, List.length_cons, List.length_nil, Nat.reduceAdd] at c43b3)
                    by_cases c44 : (t168 ++ (⟨#[58]⟩ : ByteArray)).size + t153.size ≤ 9223372036854775807
                    · rw [if_pos c44] at H
                      have c44b0 := eq_true c44
                      have c44b1 : decide ((t168 ++ (⟨#[58]⟩ : ByteArray)).size + t153.size ≤ 9223372036854775807) = true := decide_eq_true c44
                      try have c44b2 : (9223372036854775807 < (t168 ++ (⟨#[58]⟩ : ByteArray)).size + t153.size) = False := eq_false (Nat.not_lt.2 c44)
                      try (have c44b3 := c44b2; simp only [ByteArray.size_append', ByteArray.size_mk', List.size_toArray, List.length_cons, List.length_nil, Nat.reduceAdd] at c44b3)
                      simp only [Option.some.injEq, Prod.mk.injEq] at H
                      obtain ⟨rfl, rfl⟩ := H
                      have p166 : 0 ≤ (0 : Int) := (by omega)
                      have q166 : 0 < (t148.length : Int) := of_decide_eq_true (by first | (with_reducible assumption) | assumption)
                      obtain ⟨ad166, A166_0, c166_0, e166, hx166_0, hl166_0, hi166_0⟩ := at_L7 (Kd.N_reads' HO_4.out).2.2 0 p166 q166
                      obtain rfl : ad152 = ad166 := (by injection e166)
                      obtain ⟨ce166, hce166, hMe166, hcc166⟩ := Kd.N_get HO_4.out [] 0 p166 (by first | exact q166 | exact of_decide_eq_true (by first | (with_reducible assumption) | assumption) | (have e_ := (Kd.N_reads' HO_4.out).1; omega))
                      obtain ⟨ua166_0, uc166_0, rfl, ul166_0, ge166_0⟩ := Kd.FK_slice_open hMe166
                      have hv166_0 := hcc166 0 _ rfl
                      rw [Nat.add_zero, show ((Kd.slice 40 k40)).sz = 1 from rfl, Nat.mul_one] at hv166_0
                      replace hv166_0 := Option.some.inj (hv166_0.symm.trans hx166_0)
                      injection hv166_0 with hva_ hvn_ hvc_
                      rw [hva_] at ge166_0
                      rw [hvc_] at ul166_0
                      have HL166_0 := Aside0.mk (show Kd.V k40 40 _ w.heap.size _ _ (rd_L7 t148 0) from Kd.V_mk ul166_0 ge166_0)
                      clear hva_ hvn_ hvc_ ge166_0 ul166_0
                      clear hcc166 hce166
                      have qi166 : (0 < t148.length) = True := eq_true (by omega)
                      (try rw [show ((0 : Int)).toNat = 0 from rfl] at hx166_0)
                      (try rw [Addr.add_zero'] at hx166_0)
                      have HR166_0 := Aside0.mk hi166_0
                      have HC166_0 := Aside0.mk hl166_0
                      clear hi166_0 hl166_0
                      replace p166 := eq_true p166
                      replace q166 := eq_true q166
                      have p167 : 0 ≤ (0 : Int) := (by omega)
                      have q167 : 0 < (t148.length : Int) := of_decide_eq_true (by first | (with_reducible assumption) | assumption)
                      obtain ⟨ad167, A167_0, c167_0, e167, hx167_0, hl167_0, hi167_0⟩ := at_L7 (Kd.N_reads' HO_4.out).2.2 0 p167 q167
                      obtain rfl : ad152 = ad167 := (by injection e167)
                      obtain ⟨ce167, hce167, hMe167, hcc167⟩ := Kd.N_get HO_4.out [] 0 p167 (by first | exact q167 | exact of_decide_eq_true (by first | (with_reducible assumption) | assumption) | (have e_ := (Kd.N_reads' HO_4.out).1; omega))
                      obtain ⟨ua167_0, uc167_0, rfl, ul167_0, ge167_0⟩ := Kd.FK_slice_open hMe167
                      have hv167_0 := hcc167 0 _ rfl
                      rw [Nat.add_zero, show ((Kd.slice 40 k40)).sz = 1 from rfl, Nat.mul_one] at hv167_0
                      replace hv167_0 := Option.some.inj (hv167_0.symm.trans hx167_0)
                      injection hv167_0 with hva_ hvn_ hvc_
                      rw [hva_] at ge167_0
                      rw [hvc_] at ul167_0
                      have HL167_0 := Aside0.mk (show Kd.V k40 40 _ w.heap.size _ _ (rd_L7 t148 0) from Kd.V_mk ul167_0 ge167_0)
                      clear hva_ hvn_ hvc_ ge167_0 ul167_0
                      clear hcc167 hce167
                      have qi167 : (0 < t148.length) = True := eq_true (by omega)
                      (try rw [show ((0 : Int)).toNat = 0 from rfl] at hx167_0)
                      (try rw [Addr.add_zero'] at hx167_0)
                      have HR167_0 := Aside0.mk hi167_0
                      have HC167_0 := Aside0.mk hl167_0
                      clear hi167_0 hl167_0
                      replace p167 := eq_true p167
                      replace q167 := eq_true q167
                      have ea_ := Option.some.inj (hx166_0.symm.trans hx167_0)
                      injection ea_ with ea_ en_ ec_
                      subst ea_
                      subst ec_
                      clear en_
                      go_wp2_with (first | ((with_reducible refine gate_callee (f := 15) rfl ?_); refine goesL_ (some 51) rfl rfl Tryd.func15 (by kernel_rfl) rfl #[.slice A166_0 (rd_L7 t148 0).length c166_0] rfl (by (try simp only [List.map_toArray, List.map_cons, List.map_nil]); first | done | rfl | (simp only [List.length_drop, List.length_take]; rfl) | (simp; done)) ?_; (with_reducible refine (version_told.calls _ _ (rd_L7 t148 0) t168 _ ?side1 ?side2 A42.out).mono ?_); (case side1 => repeat (first | exact (by repeat (first | (with_reducible exact HR167_0.out) | (with_reducible refine Kd.C_alloc ?_ _) | (with_reducible refine Kd.C_drewN ?_ _) | (with_reducible refine Kd.C_drew ?_) | exact HR167_0.out)) | (with_reducible refine Kd.C_alloc ?_ _) | (with_reducible refine Kd.C_drewN ?_ _) | (with_reducible refine Kd.C_drew ?_))); (case side2 => exact HC167_0.out); rintro e w45 ⟨rfl, hb⟩; refine ⟨_, rfl, ?_⟩; have n0_ := Aside0.mk (Kd.N_below (by (with_reducible repeat (first | apply Kd.N_alloc | apply Kd.N_drewN | apply Kd.N_drew)); exact HO_4.out) hb); have n1_ := Aside0.mk (Kd.V_below (by (with_reducible repeat (first | apply Kd.V_alloc | apply Kd.V_drewN | apply Kd.V_drew)); exact HL166_0.out) hb); have n2_ := Aside0.mk (Kd.V_below (by (with_reducible repeat (first | apply Kd.V_alloc | apply Kd.V_drewN | apply Kd.V_drew)); exact HL167_0.out) hb); have n3_ := Aside0.mk (Kd.C_below (by repeat (first | (with_reducible exact HR152_0.out) | (with_reducible refine Kd.C_alloc ?_ _) | (with_reducible refine Kd.C_drewN ?_ _) | (with_reducible refine Kd.C_drew ?_) | exact HR152_0.out)) hb); have n4_ := Aside0.mk (Kd.C_below (by repeat (first | (with_reducible exact HR166_0.out) | (with_reducible refine Kd.C_alloc ?_ _) | (with_reducible refine Kd.C_drewN ?_ _) | (with_reducible refine Kd.C_drew ?_) | exact HR166_0.out)) hb); have n5_ := Aside0.mk (Kd.C_below (by repeat (first | (with_reducible exact HR167_0.out) | (with_reducible refine Kd.C_alloc ?_ _) | (with_reducible refine Kd.C_drewN ?_ _) | (with_reducible refine Kd.C_drew ?_) | exact HR167_0.out)) hb); have n6_ := Aside0.mk (below_step (by repeat (first | (with_reducible first | exact HB.out | apply below_alloc | apply pw_below_drewN | apply below_drew1) | exact HB.out)) hb); clear HO_4; clear HL166_0; clear HL167_0; clear HR152_0; clear HR166_0; clear HR167_0; clear HB; have HO_4 := n0_; have HL166_0 := n1_; have HL167_0 := n2_; have HR152_0 := n3_; have HR166_0 := n4_; have HR167_0 := n5_; have HB := n6_; clear n0_ n1_ n2_ n3_ n4_ n5_ n6_; (try clear hb); (try clear hb2); (try clear hk); (try clear hi)))
                      go_ret2
                      exact ⟨by first | rfl | (simp [errW_none, errW_some] <;> rfl) | (simp [*, errW_none, errW_some] <;> rfl) | (simp [errW_none, errW_some, Go.Proofs.YtcndnccobhgnlaaDoor.listNe]; done), by repeat (first | (with_reducible first | exact HB.out | apply below_alloc | apply pw_below_drewN | apply below_drew1) | exact HB.out)⟩
                    · rw [if_neg c44] at H
                      exact absurd H (by simp)
                  · rw [if_neg c43] at H
                    exact absurd H (by simp)
                · rw [if_neg c41] at H
                  have c41b0 : decide (0 < ((rd_L7 t148 0).length : Int)) = false := decide_eq_false c41
                  have c41b1 : decide (0 < (rd_L7 t148 0).length) = false := decide_eq_false (by omega)
                  clear c41
                  simp only [Option.some.injEq, Prod.mk.injEq] at H
                  obtain ⟨rfl, rfl⟩ := H
                  have p166 : 0 ≤ (0 : Int) := (by omega)
                  have q166 : 0 < (t148.length : Int) := of_decide_eq_true (by first | (with_reducible assumption) | assumption)
                  obtain ⟨ad166, A166_0, c166_0, e166, hx166_0, hl166_0, hi166_0⟩ := at_L7 (Kd.N_reads' HO_4.out).2.2 0 p166 q166
                  obtain rfl : ad152 = ad166 := (by injection e166)
                  obtain ⟨ce166, hce166, hMe166, hcc166⟩ := Kd.N_get HO_4.out [] 0 p166 (by first | exact q166 | exact of_decide_eq_true (by first | (with_reducible assumption) | assumption) | (have e_ := (Kd.N_reads' HO_4.out).1; omega))
                  obtain ⟨ua166_0, uc166_0, rfl, ul166_0, ge166_0⟩ := Kd.FK_slice_open hMe166
                  have hv166_0 := hcc166 0 _ rfl
                  rw [Nat.add_zero, show ((Kd.slice 40 k40)).sz = 1 from rfl, Nat.mul_one] at hv166_0
                  replace hv166_0 := Option.some.inj (hv166_0.symm.trans hx166_0)
                  injection hv166_0 with hva_ hvn_ hvc_
                  rw [hva_] at ge166_0
                  rw [hvc_] at ul166_0
                  have HL166_0 := Aside0.mk (show Kd.V k40 40 _ w.heap.size _ _ (rd_L7 t148 0) from Kd.V_mk ul166_0 ge166_0)
                  clear hva_ hvn_ hvc_ ge166_0 ul166_0
                  clear hcc166 hce166
                  have qi166 : (0 < t148.length) = True := eq_true (by omega)
                  (try rw [show ((0 : Int)).toNat = 0 from rfl] at hx166_0)
                  (try rw [Addr.add_zero'] at hx166_0)
                  have HR166_0 := Aside0.mk hi166_0
                  have HC166_0 := Aside0.mk hl166_0
                  clear hi166_0 hl166_0
                  replace p166 := eq_true p166
                  replace q166 := eq_true q166
                  go_wp2
                  go_ret2
                  exact ⟨by first | rfl | (simp [errW_none, errW_some] <;> rfl) | (simp [*, errW_none, errW_some] <;> rfl) | (simp [errW_none, errW_some, Go.Proofs.YtcndnccobhgnlaaDoor.listNe]; done), by repeat (first | (with_reducible first | exact HB.out | apply below_alloc | apply pw_below_drewN | apply below_drew1) | exact HB.out)⟩
              · rw [if_neg c40] at H
                exact absurd H (by simp)
    · rw [if_neg c4] at H
      exact absurd H (by simp)
  · rw [if_neg c3] at H
    have c3b0 : (t151 == 0) = false := beq_eq_false_iff_ne.mpr c3
    have c3b1 : (t151 != 0) = true := bne_iff_ne.mpr c3
    simp only [Option.some.injEq, Prod.mk.injEq] at H
    obtain ⟨rfl, rfl⟩ := H
    go_enter Tryd.func8, Tryd.ntmps8
    go_wp2_with (first | ((with_reducible refine gate_callee (f := 5) rfl ?_); refine goesL_ (some 11) rfl rfl Tryd.func5 (by kernel_rfl) rfl #[.string a0] rfl (by (try simp only [List.map_toArray, List.map_cons, List.map_nil]); first | done | rfl | (simp only [List.length_drop, List.length_take]; rfl) | (simp; done)) ?_; (with_reducible refine (version_Key.calls k a0 t148 t151 _ A2.out).mono ?_); rintro e w46 ⟨v149, rfl, ho0, hb⟩; refine ⟨_, rfl, ?_⟩; have n0_ := Aside0.mk (Kd.N_lower (Kd.N_mono (ok' := fun k_ => True) ho0 (fun k_ hk_ => trivial)) (below_size (by repeat (first | (with_reducible first | exact HB.out | apply below_alloc | apply pw_below_drewN | apply below_drew1) | exact HB.out)))); have n1_ := Aside0.mk (below_step (by repeat (first | (with_reducible first | exact HB.out | apply below_alloc | apply pw_below_drewN | apply below_drew1) | exact HB.out)) hb); clear HB; have HO150 := n0_; have HB := n1_; clear n0_ n1_; (try clear hb); (try clear hb2); (try clear hk); (try clear hi); (try clear ho0)))
    go_ret2
    exact ⟨by first | rfl | (simp [errW_none, errW_some] <;> rfl) | (simp [*, errW_none, errW_some] <;> rfl) | (simp [errW_none, errW_some, Go.Proofs.YtcndnccobhgnlaaDoor.listNe]; done), by repeat (first | (with_reducible first | exact HB.out | apply below_alloc | apply pw_below_drewN | apply below_drew1) | exact HB.out)⟩

/-! ### depotref20_first: function 18 -/
def depotref20_first.l0 : Nat → ByteArray → Int → Int → Option (Int)
  | 0, _, _, _ => none
  | k + 1, x0, x1, x5 => if x5 < (x0.size : Int) then (if 0 ≤ x5 then (if (bt x0 x5) = x1 then (some x5) else (depotref20_first.l0 k x0 x1 (wrap64 (x5 + 1)))) else (none)) else (some (-1))
def depotref20_first.f (k : Nat) (a0 : ByteArray) (a1 : Int) : Option (Int) := depotref20_first.l0 k a0 a1 0
theorem depotref20_first.mono_l : ∀ k, (∀ y0 y1 y2, LeO (depotref20_first.l0 k y0 y1 y2) (depotref20_first.l0 (k + 1) y0 y1 y2))
  | 0 => fun _ _ _ r h => by simp [depotref20_first.l0] at h
  | k + 1 => by
    have ih0 := depotref20_first.mono_l k
    · intro y0 y1 y2
      unfold depotref20_first.l0
      repeat' first
      | (with_reducible exact ih0 _ _ _)
      | (with_reducible exact LeO.refl _)
      | (with_reducible exact LeO.none _)
      | (with_reducible refine LeO.ite ?_ ?_)
      | (with_reducible refine LeO.bind ?_ (fun _ => ?_))
      | exact ih0 _ _ _
      | exact LeO.none _
      | refine LeO.ite ?_ ?_
      | refine LeO.bind ?_ (fun _ => ?_)
theorem depotref20_first.mono : ∀ a0 a1 k, LeO (depotref20_first.f k a0 a1) (depotref20_first.f (k + 1) a0 a1) := by
  intro a0 a1 k
  have ih0 := depotref20_first.mono_l k
  unfold depotref20_first.f
  repeat' first
      | (with_reducible exact ih0 _ _ _)
      | (with_reducible exact LeO.refl _)
      | (with_reducible exact LeO.none _)
      | (with_reducible refine LeO.ite ?_ ?_)
      | (with_reducible refine LeO.bind ?_ (fun _ => ?_))
      | exact ih0 _ _ _
      | exact LeO.none _
      | refine LeO.ite ?_ ?_
      | refine LeO.bind ?_ (fun _ => ?_)
set_option maxHeartbeats 8000000 in
set_option maxRecDepth 100000 in
theorem depotref20_first.calls (k : Nat) (a0 : ByteArray) (a1 : Int) (r : Int) (w : World) (h : depotref20_first.f k a0 a1 = some r) :
    Calls Tryd.prog 18 #[.string a0, .int .u8 a1] w fun e w' => e = .returned (.int .i64 r) ∧ Drawn0 w w' := by
  have H : (depotref20_first.l0 k a0 a1 0) = some r := h
  clear h
  have H' := Aside0.mk H
  clear H
  go_enter Tryd.func18, Tryd.ntmps18
  go_wp2
  go_loopg [5] k (fun kq v5 w' => ∃ (x5_1 : Int), v5 = .int .i64 x5_1 ∧ Aside0 (depotref20_first.l0 kq a0 a1 x5_1 = some r) ∧ Aside0 (kq ≤ k) ∧ Drawn0 w w')
  case atStart => exact ⟨(0), (by first | rfl | (simp; done) | (simp [*]; done)), H', ⟨Nat.le_refl _⟩, by repeat (first | exact Drawn0.refl _ | apply Drawn0.step)⟩
  case round =>
    clear H'
    try clear c1
    try clear p2
    obtain ⟨x5_1, rfl, HA, HK1, ⟨m1, rfl⟩⟩ := hrel
    cases gk with
    | zero => exact absurd HA.out (by simp [depotref20_first.l0])
    | succ k1 =>
      have H := HA.out
      clear HA
      simp only [depotref20_first.l0] at H
      by_cases c3 : x5_1 < (a0.size : Int)
      · rw [if_pos c3] at H
        have c3b0 : decide (x5_1 < (a0.size : Int)) = true := decide_eq_true c3
        clear c3
        by_cases c4 : 0 ≤ x5_1
        · rw [if_pos c4] at H
          have c4b0 : decide (0 ≤ x5_1) = true := decide_eq_true c4
          clear c4
          by_cases c6 : (bt a0 x5_1) = a1
          · rw [if_pos c6] at H
            have c6b0 : ((bt a0 x5_1) == a1) = true := beq_iff_eq.mpr c6
            have c6b1 : ((bt a0 x5_1) != a1) = false := bne_eq_false_iff_eq.mpr c6
            clear c6
            obtain rfl := Option.some.inj H
            have p5 : 0 ≤ (x5_1 : Int) := of_decide_eq_true (by first | (with_reducible assumption) | assumption)
            have q5 : x5_1 < (a0.size : Int) := of_decide_eq_true (by first | (with_reducible assumption) | assumption)
            have hx5 := bt_at a0 x5_1
            replace p5 := eq_true p5
            replace q5 := eq_true q5
            go_wp2
            go_ret
            exact ⟨by first | rfl | (simp; done) | (simp [*]; done), by repeat (first | exact Drawn0.refl _ | apply Drawn0.step)⟩
          · rw [if_neg c6] at H
            have c6b0 : ((bt a0 x5_1) == a1) = false := beq_eq_false_iff_ne.mpr c6
            have c6b1 : ((bt a0 x5_1) != a1) = true := bne_iff_ne.mpr c6
            have H' := Aside0.mk H
            clear H
            have p5 : 0 ≤ (x5_1 : Int) := of_decide_eq_true (by first | (with_reducible assumption) | assumption)
            have q5 : x5_1 < (a0.size : Int) := of_decide_eq_true (by first | (with_reducible assumption) | assumption)
            have hx5 := bt_at a0 x5_1
            replace p5 := eq_true p5
            replace q5 := eq_true q5
            go_wp2
            go_roundg k1
            case measure => have := HK1.out; omega
            case rel => exact ⟨(wrap64 (x5_1 + 1)), (by first | rfl | (simp; done) | (simp [*]; done)), H', ⟨by have := HK1.out; omega⟩, by repeat (first | exact Drawn0.refl _ | apply Drawn0.step)⟩
        · rw [if_neg c4] at H
          exact absurd H (by simp)
      · rw [if_neg c3] at H
        have c3b0 : decide (x5_1 < (a0.size : Int)) = false := decide_eq_false c3
        clear c3
        obtain rfl := Option.some.inj H
        go_wp2
        go_ret
        exact ⟨by first | rfl | (simp; done) | (simp [*]; done), by repeat (first | exact Drawn0.refl _ | apply Drawn0.step)⟩

/-! ### depotref20_last: function 27 -/
def depotref20_last.l0 : Nat → ByteArray → Int → Int → Option (Int)
  | 0, _, _, _ => none
  | k + 1, x0, x1, x5 => if x5 ≥ 0 then (if 0 ≤ x5 then (if x5 < (x0.size : Int) then (if (bt x0 x5) = x1 then (some x5) else (depotref20_last.l0 k x0 x1 (wrap64 (x5 - 1)))) else (none)) else (none)) else (some (-1))
def depotref20_last.f (k : Nat) (a0 : ByteArray) (a1 : Int) : Option (Int) := depotref20_last.l0 k a0 a1 (wrap64 ((a0.size : Int) - 1))
theorem depotref20_last.mono_l : ∀ k, (∀ y0 y1 y2, LeO (depotref20_last.l0 k y0 y1 y2) (depotref20_last.l0 (k + 1) y0 y1 y2))
  | 0 => fun _ _ _ r h => by simp [depotref20_last.l0] at h
  | k + 1 => by
    have ih0 := depotref20_last.mono_l k
    · intro y0 y1 y2
      unfold depotref20_last.l0
      repeat' first
      | (with_reducible exact ih0 _ _ _)
      | (with_reducible exact LeO.refl _)
      | (with_reducible exact LeO.none _)
      | (with_reducible refine LeO.ite ?_ ?_)
      | (with_reducible refine LeO.bind ?_ (fun _ => ?_))
      | exact ih0 _ _ _
      | exact LeO.none _
      | refine LeO.ite ?_ ?_
      | refine LeO.bind ?_ (fun _ => ?_)
theorem depotref20_last.mono : ∀ a0 a1 k, LeO (depotref20_last.f k a0 a1) (depotref20_last.f (k + 1) a0 a1) := by
  intro a0 a1 k
  have ih0 := depotref20_last.mono_l k
  unfold depotref20_last.f
  repeat' first
      | (with_reducible exact ih0 _ _ _)
      | (with_reducible exact LeO.refl _)
      | (with_reducible exact LeO.none _)
      | (with_reducible refine LeO.ite ?_ ?_)
      | (with_reducible refine LeO.bind ?_ (fun _ => ?_))
      | exact ih0 _ _ _
      | exact LeO.none _
      | refine LeO.ite ?_ ?_
      | refine LeO.bind ?_ (fun _ => ?_)
set_option maxHeartbeats 8000000 in
set_option maxRecDepth 100000 in
theorem depotref20_last.calls (k : Nat) (a0 : ByteArray) (a1 : Int) (r : Int) (w : World) (h : depotref20_last.f k a0 a1 = some r) :
    Calls Tryd.prog 27 #[.string a0, .int .u8 a1] w fun e w' => e = .returned (.int .i64 r) ∧ Drawn0 w w' := by
  have H : (depotref20_last.l0 k a0 a1 (wrap64 ((a0.size : Int) - 1))) = some r := h
  clear h
  have H' := Aside0.mk H
  clear H
  go_enter Tryd.func27, Tryd.ntmps27
  go_wp2
  go_loopg [5] k (fun kq v5 w' => ∃ (x5_1 : Int), v5 = .int .i64 x5_1 ∧ Aside0 (depotref20_last.l0 kq a0 a1 x5_1 = some r) ∧ Aside0 (kq ≤ k) ∧ Drawn0 w w')
  case atStart => exact ⟨(wrap64 ((a0.size : Int) - 1)), (by first | rfl | (simp; done) | (simp [*]; done)), H', ⟨Nat.le_refl _⟩, by repeat (first | exact Drawn0.refl _ | apply Drawn0.step)⟩
  case round =>
    clear H'
    try clear c2
    try clear p2
    obtain ⟨x5_1, rfl, HA, HK1, ⟨m1, rfl⟩⟩ := hrel
    cases gk with
    | zero => exact absurd HA.out (by simp [depotref20_last.l0])
    | succ k1 =>
      have H := HA.out
      clear HA
      simp only [depotref20_last.l0] at H
      by_cases c3 : x5_1 ≥ 0
      · rw [if_pos c3] at H
        have c3b0 : decide (0 ≤ x5_1) = true := decide_eq_true c3
        clear c3
        by_cases c4 : 0 ≤ x5_1
        · rw [if_pos c4] at H
          have c4b0 : decide (0 ≤ x5_1) = true := decide_eq_true c4
          clear c4
          by_cases c5 : x5_1 < (a0.size : Int)
          · rw [if_pos c5] at H
            have c5b0 : decide (x5_1 < (a0.size : Int)) = true := decide_eq_true c5
            clear c5
            by_cases c7 : (bt a0 x5_1) = a1
            · rw [if_pos c7] at H
              have c7b0 : ((bt a0 x5_1) == a1) = true := beq_iff_eq.mpr c7
              have c7b1 : ((bt a0 x5_1) != a1) = false := bne_eq_false_iff_eq.mpr c7
              clear c7
              obtain rfl := Option.some.inj H
              have p6 : 0 ≤ (x5_1 : Int) := of_decide_eq_true (by first | (with_reducible assumption) | assumption)
              have q6 : x5_1 < (a0.size : Int) := of_decide_eq_true (by first | (with_reducible assumption) | assumption)
              have hx6 := bt_at a0 x5_1
              replace p6 := eq_true p6
              replace q6 := eq_true q6
              go_wp2
              go_ret
              exact ⟨by first | rfl | (simp; done) | (simp [*]; done), by repeat (first | exact Drawn0.refl _ | apply Drawn0.step)⟩
            · rw [if_neg c7] at H
              have c7b0 : ((bt a0 x5_1) == a1) = false := beq_eq_false_iff_ne.mpr c7
              have c7b1 : ((bt a0 x5_1) != a1) = true := bne_iff_ne.mpr c7
              have H' := Aside0.mk H
              clear H
              have p6 : 0 ≤ (x5_1 : Int) := of_decide_eq_true (by first | (with_reducible assumption) | assumption)
              have q6 : x5_1 < (a0.size : Int) := of_decide_eq_true (by first | (with_reducible assumption) | assumption)
              have hx6 := bt_at a0 x5_1
              replace p6 := eq_true p6
              replace q6 := eq_true q6
              go_wp2
              go_roundg k1
              case measure => have := HK1.out; omega
              case rel => exact ⟨(wrap64 (x5_1 - 1)), (by first | rfl | (simp; done) | (simp [*]; done)), H', ⟨by have := HK1.out; omega⟩, by repeat (first | exact Drawn0.refl _ | apply Drawn0.step)⟩
          · rw [if_neg c5] at H
            exact absurd H (by simp)
        · rw [if_neg c4] at H
          exact absurd H (by simp)
      · rw [if_neg c3] at H
        have c3b0 : decide (0 ≤ x5_1) = false := decide_eq_false c3
        clear c3
        obtain rfl := Option.some.inj H
        go_wp2
        go_ret
        exact ⟨by first | rfl | (simp; done) | (simp [*]; done), by repeat (first | exact Drawn0.refl _ | apply Drawn0.step)⟩

end Go.Proofs.YtcndnccobhgnlaaDoor.C
