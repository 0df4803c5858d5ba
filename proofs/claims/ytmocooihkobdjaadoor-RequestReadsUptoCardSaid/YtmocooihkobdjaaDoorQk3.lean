/- A part of the proof: the texts of this claim, packed by a program of this session (wip/pack.py). -/
import Derived.Test.YtmocooihkobdjaaDoorQk1
import Derived.Test.YtmocooihkobdjaaDoorQk2
section
namespace Go.Proofs.YtmocooihkobdjaaDoor.Q
open Go.RowKit Go.Proofs.YtmocooihkobdjaaDoorW.PrintWords Go.Proofs.YtmocooihkobdjaaDoorW.PrintLast Go.Proofs.YtmocooihkobdjaaDoorW.PrintMore
attribute [local go_sem] max2_int min2_int max_two min_two max_three min_three max_four min_four
set_option linter.unusedVariables false
set_option linter.unusedSimpArgs false
def depotref22_Name.l0 : Nat → ByteArray → Int → Option (Bool)
 | 0, _, _ => none
 | k + 1, x0, x3 => if x3 < (x0.size : Int) then (if 0 ≤ x3 then (if (bt x0 x3) ≥ 97 then (if (bt x0 x3) ≤ 122 then (depotref22_Name.l0 k x0 (wrap64 (x3 + 1))) else (if (bt x0 x3) ≥ 48 then (if ((bt x0 x3) ≤ 57) then (depotref22_Name.l0 k x0 (wrap64 (x3 + 1))) else (if x3 = 0 then (some false) else (if (bt x0 x3) = 43 then (depotref22_Name.l0 k x0 (wrap64 (x3 + 1))) else (if (bt x0 x3) = 45 then (depotref22_Name.l0 k x0 (wrap64 (x3 + 1))) else (if (bt x0 x3) = 46 then (depotref22_Name.l0 k x0 (wrap64 (x3 + 1))) else (some false)))))) else (if x3 = 0 then (some false) else (if (bt x0 x3) = 43 then (depotref22_Name.l0 k x0 (wrap64 (x3 + 1))) else (if (bt x0 x3) = 45 then (depotref22_Name.l0 k x0 (wrap64 (x3 + 1))) else (if (bt x0 x3) = 46 then (depotref22_Name.l0 k x0 (wrap64 (x3 + 1))) else (some false))))))) else (if (bt x0 x3) ≥ 48 then (if ((bt x0 x3) ≤ 57) then (depotref22_Name.l0 k x0 (wrap64 (x3 + 1))) else (if x3 = 0 then (some false) else (if (bt x0 x3) = 43 then (depotref22_Name.l0 k x0 (wrap64 (x3 + 1))) else (if (bt x0 x3) = 45 then (depotref22_Name.l0 k x0 (wrap64 (x3 + 1))) else (if (bt x0 x3) = 46 then (depotref22_Name.l0 k x0 (wrap64 (x3 + 1))) else (some false)))))) else (if x3 = 0 then (some false) else (if (bt x0 x3) = 43 then (depotref22_Name.l0 k x0 (wrap64 (x3 + 1))) else (if (bt x0 x3) = 45 then (depotref22_Name.l0 k x0 (wrap64 (x3 + 1))) else (if (bt x0 x3) = 46 then (depotref22_Name.l0 k x0 (wrap64 (x3 + 1))) else (some false))))))) else (none)) else (some true)
def depotref22_Name.f (k : Nat) (a0 : ByteArray) : Option (Bool) := if (a0.size : Int) < 2 then (some false) else (depotref22_Name.l0 k a0 0)
theorem depotref22_Name.mono_l : ∀ k, (∀ y0 y1, LeO (depotref22_Name.l0 k y0 y1) (depotref22_Name.l0 (k + 1) y0 y1))
 | 0 => fun _ _ r h => by simp [depotref22_Name.l0] at h
 | k + 1 => by
  have ih0 := depotref22_Name.mono_l k
  ·intro y0 y1
   unfold depotref22_Name.l0
   repeat' first
   | (with_reducible exact ih0 _ _)
   | (with_reducible exact LeO.refl _)
   | (with_reducible exact LeO.none _)
   | (with_reducible refine LeO.ite ?_ ?_)
   | (with_reducible refine LeO.bind ?_ (fun _ => ?_))
   | exact ih0 _ _
   | exact LeO.none _
   | refine LeO.ite ?_ ?_
   | refine LeO.bind ?_ (fun _ => ?_)
theorem depotref22_Name.mono : ∀ a0 k, LeO (depotref22_Name.f k a0) (depotref22_Name.f (k + 1) a0) := by
 intro a0 k
 have ih0 := depotref22_Name.mono_l k
 unfold depotref22_Name.f
 repeat' first
   | (with_reducible exact ih0 _ _)
   | (with_reducible exact LeO.refl _)
   | (with_reducible exact LeO.none _)
   | (with_reducible refine LeO.ite ?_ ?_)
   | (with_reducible refine LeO.bind ?_ (fun _ => ?_))
   | exact ih0 _ _
   | exact LeO.none _
   | refine LeO.ite ?_ ?_
   | refine LeO.bind ?_ (fun _ => ?_)
set_option maxHeartbeats 8000000 in
set_option maxRecDepth 100000 in
theorem depotref22_Name.calls (k : Nat) (a0 : ByteArray) (r : Bool) (w : World) (h : depotref22_Name.f k a0 = some r) :
  Calls Tryd.prog 51 #[.string a0] w fun e w' => e = .returned (.bool r) ∧ Drawn0 w w' := by
 have H : (if (a0.size : Int) < 2 then (some false) else (depotref22_Name.l0 k a0 0)) = some r := h
 clear h
 by_cases c2 : (a0.size : Int) < 2
 ·rw [if_pos c2] at H
  have c2b0 : decide ((a0.size : Int) < 2) = true := decide_eq_true c2
  have c2b1 : decide (a0.size < 2) = true := decide_eq_true (by omega)
  clear c2
  obtain rfl := Option.some.inj H
  go_enter Tryd.func51, Tryd.ntmps51
  go_wp2
  go_ret
  exact ⟨by first | rfl | (simp; done) | (simp [*]; done), by repeat (first | exact Drawn0.refl _ | apply Drawn0.step)⟩
 ·rw [if_neg c2] at H
  have c2b0 : decide ((a0.size : Int) < 2) = false := decide_eq_false c2
  have c2b1 : decide (a0.size < 2) = false := decide_eq_false (by omega)
  clear c2
  have H' := Aside0.mk H
  clear H
  go_enter Tryd.func51, Tryd.ntmps51
  go_wp2
  go_loopg [3] k (fun kq v3 w' => ∃ (x3_1 : Int), v3 = .int .i64 x3_1 ∧ Aside0 (depotref22_Name.l0 kq a0 x3_1 = some r) ∧ Aside0 (kq ≤ k) ∧ Drawn0 w w')
  case atStart => exact ⟨(0), (by first | rfl | (simp; done) | (simp [*]; done)), H', ⟨Nat.le_refl _⟩, by repeat (first | exact Drawn0.refl _ | apply Drawn0.step)⟩
  case round =>
   clear H'
   try clear c2
   try clear c2b0
   try clear c2b1
   try clear p2
   obtain ⟨x3_1, rfl, HA, HK1, ⟨m1, rfl⟩⟩ := hrel
   cases gk with
   | zero => exact absurd HA.out (by simp [depotref22_Name.l0])
   | succ k1 =>
    have H := HA.out
    clear HA
    simp only [depotref22_Name.l0] at H
    by_cases c3 : x3_1 < (a0.size : Int)
    ·rw [if_pos c3] at H
     have c3b0 : decide (x3_1 < (a0.size : Int)) = true := decide_eq_true c3
     clear c3
     by_cases c4 : 0 ≤ x3_1
     ·rw [if_pos c4] at H
      have c4b0 : decide (0 ≤ x3_1) = true := decide_eq_true c4
      clear c4
      by_cases c6 : (bt a0 x3_1) ≥ 97
      ·rw [if_pos c6] at H
       have c6b0 : decide (97 ≤ (bt a0 x3_1)) = true := decide_eq_true c6
       clear c6
       by_cases c7 : (bt a0 x3_1) ≤ 122
       ·rw [if_pos c7] at H
        have c7b0 : decide ((bt a0 x3_1) ≤ 122) = true := decide_eq_true c7
        clear c7
        have H' := Aside0.mk H
        clear H
        have p5 : 0 ≤ (x3_1 : Int) := of_decide_eq_true (by first | (with_reducible assumption) | assumption)
        have q5 : x3_1 < (a0.size : Int) := of_decide_eq_true (by first | (with_reducible assumption) | assumption)
        have hx5 := bt_at a0 x3_1
        replace p5 := eq_true p5
        replace q5 := eq_true q5
        go_wp2
        go_roundg k1
        case measure => have := HK1.out; omega
        case rel => exact ⟨(wrap64 (x3_1 + 1)), (by first | rfl | (simp; done) | (simp [*]; done)), H', ⟨by have := HK1.out; omega⟩, by repeat (first | exact Drawn0.refl _ | apply Drawn0.step)⟩
       ·rw [if_neg c7] at H
        have c7b0 : decide ((bt a0 x3_1) ≤ 122) = false := decide_eq_false c7
        clear c7
        by_cases c8 : (bt a0 x3_1) ≥ 48
        ·rw [if_pos c8] at H
         have c8b0 : decide (48 ≤ (bt a0 x3_1)) = true := decide_eq_true c8
         clear c8
         by_cases c9 : ((bt a0 x3_1) ≤ 57)
         ·rw [if_pos c9] at H
          have c9b0 : decide ((bt a0 x3_1) ≤ 57) = true := decide_eq_true c9
          clear c9
          have H' := Aside0.mk H
          clear H
          have p5 : 0 ≤ (x3_1 : Int) := of_decide_eq_true (by first | (with_reducible assumption) | assumption)
          have q5 : x3_1 < (a0.size : Int) := of_decide_eq_true (by first | (with_reducible assumption) | assumption)
          have hx5 := bt_at a0 x3_1
          replace p5 := eq_true p5
          replace q5 := eq_true q5
          go_wp2
          go_roundg k1
          case measure => have := HK1.out; omega
          case rel => exact ⟨(wrap64 (x3_1 + 1)), (by first | rfl | (simp; done) | (simp [*]; done)), H', ⟨by have := HK1.out; omega⟩, by repeat (first | exact Drawn0.refl _ | apply Drawn0.step)⟩
         ·rw [if_neg c9] at H
          have c9b0 : decide ((bt a0 x3_1) ≤ 57) = false := decide_eq_false c9
          clear c9
          by_cases c10 : x3_1 = 0
          ·rw [if_pos c10] at H
           have c10b0 : (x3_1 == 0) = true := beq_iff_eq.mpr c10
           have c10b1 : (x3_1 != 0) = false := bne_eq_false_iff_eq.mpr c10
           clear c10
           obtain rfl := Option.some.inj H
           have p5 : 0 ≤ (x3_1 : Int) := of_decide_eq_true (by first | (with_reducible assumption) | assumption)
           have q5 : x3_1 < (a0.size : Int) := of_decide_eq_true (by first | (with_reducible assumption) | assumption)
           have hx5 := bt_at a0 x3_1
           replace p5 := eq_true p5
           replace q5 := eq_true q5
           go_wp2
           go_ret
           exact ⟨by first | rfl | (simp; done) | (simp [*]; done), by repeat (first | exact Drawn0.refl _ | apply Drawn0.step)⟩
          ·rw [if_neg c10] at H
           have c10b0 : (x3_1 == 0) = false := beq_eq_false_iff_ne.mpr c10
           have c10b1 : (x3_1 != 0) = true := bne_iff_ne.mpr c10
           by_cases c11 : (bt a0 x3_1) = 43
           ·rw [if_pos c11] at H
            have c11b0 : ((bt a0 x3_1) == 43) = true := beq_iff_eq.mpr c11
            have c11b1 : ((bt a0 x3_1) != 43) = false := bne_eq_false_iff_eq.mpr c11
            clear c11
            have H' := Aside0.mk H
            clear H
            have p5 : 0 ≤ (x3_1 : Int) := of_decide_eq_true (by first | (with_reducible assumption) | assumption)
            have q5 : x3_1 < (a0.size : Int) := of_decide_eq_true (by first | (with_reducible assumption) | assumption)
            have hx5 := bt_at a0 x3_1
            replace p5 := eq_true p5
            replace q5 := eq_true q5
            go_wp2
            go_roundg k1
            case measure => have := HK1.out; omega
            case rel => exact ⟨(wrap64 (x3_1 + 1)), (by first | rfl | (simp; done) | (simp [*]; done)), H', ⟨by have := HK1.out; omega⟩, by repeat (first | exact Drawn0.refl _ | apply Drawn0.step)⟩
           ·rw [if_neg c11] at H
            have c11b0 : ((bt a0 x3_1) == 43) = false := beq_eq_false_iff_ne.mpr c11
            have c11b1 : ((bt a0 x3_1) != 43) = true := bne_iff_ne.mpr c11
            by_cases c12 : (bt a0 x3_1) = 45
            ·rw [if_pos c12] at H
             have c12b0 : ((bt a0 x3_1) == 45) = true := beq_iff_eq.mpr c12
             have c12b1 : ((bt a0 x3_1) != 45) = false := bne_eq_false_iff_eq.mpr c12
             clear c12
             have H' := Aside0.mk H
             clear H
             have p5 : 0 ≤ (x3_1 : Int) := of_decide_eq_true (by first | (with_reducible assumption) | assumption)
             have q5 : x3_1 < (a0.size : Int) := of_decide_eq_true (by first | (with_reducible assumption) | assumption)
             have hx5 := bt_at a0 x3_1
             replace p5 := eq_true p5
             replace q5 := eq_true q5
             go_wp2
             go_roundg k1
             case measure => have := HK1.out; omega
             case rel => exact ⟨(wrap64 (x3_1 + 1)), (by first | rfl | (simp; done) | (simp [*]; done)), H', ⟨by have := HK1.out; omega⟩, by repeat (first | exact Drawn0.refl _ | apply Drawn0.step)⟩
            ·rw [if_neg c12] at H
             have c12b0 : ((bt a0 x3_1) == 45) = false := beq_eq_false_iff_ne.mpr c12
             have c12b1 : ((bt a0 x3_1) != 45) = true := bne_iff_ne.mpr c12
             by_cases c13 : (bt a0 x3_1) = 46
             ·rw [if_pos c13] at H
              have c13b0 : ((bt a0 x3_1) == 46) = true := beq_iff_eq.mpr c13
              have c13b1 : ((bt a0 x3_1) != 46) = false := bne_eq_false_iff_eq.mpr c13
              clear c13
              have H' := Aside0.mk H
              clear H
              have p5 : 0 ≤ (x3_1 : Int) := of_decide_eq_true (by first | (with_reducible assumption) | assumption)
              have q5 : x3_1 < (a0.size : Int) := of_decide_eq_true (by first | (with_reducible assumption) | assumption)
              have hx5 := bt_at a0 x3_1
              replace p5 := eq_true p5
              replace q5 := eq_true q5
              go_wp2
              go_roundg k1
              case measure => have := HK1.out; omega
              case rel => exact ⟨(wrap64 (x3_1 + 1)), (by first | rfl | (simp; done) | (simp [*]; done)), H', ⟨by have := HK1.out; omega⟩, by repeat (first | exact Drawn0.refl _ | apply Drawn0.step)⟩
             ·rw [if_neg c13] at H
              have c13b0 : ((bt a0 x3_1) == 46) = false := beq_eq_false_iff_ne.mpr c13
              have c13b1 : ((bt a0 x3_1) != 46) = true := bne_iff_ne.mpr c13
              obtain rfl := Option.some.inj H
              have p5 : 0 ≤ (x3_1 : Int) := of_decide_eq_true (by first | (with_reducible assumption) | assumption)
              have q5 : x3_1 < (a0.size : Int) := of_decide_eq_true (by first | (with_reducible assumption) | assumption)
              have hx5 := bt_at a0 x3_1
              replace p5 := eq_true p5
              replace q5 := eq_true q5
              go_wp2
              go_ret
              exact ⟨by first | rfl | (simp; done) | (simp [*]; done), by repeat (first | exact Drawn0.refl _ | apply Drawn0.step)⟩
        ·rw [if_neg c8] at H
         have c8b0 : decide (48 ≤ (bt a0 x3_1)) = false := decide_eq_false c8
         clear c8
         by_cases c14 : x3_1 = 0
         ·rw [if_pos c14] at H
          have c14b0 : (x3_1 == 0) = true := beq_iff_eq.mpr c14
          have c14b1 : (x3_1 != 0) = false := bne_eq_false_iff_eq.mpr c14
          clear c14
          obtain rfl := Option.some.inj H
          have p5 : 0 ≤ (x3_1 : Int) := of_decide_eq_true (by first | (with_reducible assumption) | assumption)
          have q5 : x3_1 < (a0.size : Int) := of_decide_eq_true (by first | (with_reducible assumption) | assumption)
          have hx5 := bt_at a0 x3_1
          replace p5 := eq_true p5
          replace q5 := eq_true q5
          go_wp2
          go_ret
          exact ⟨by first | rfl | (simp; done) | (simp [*]; done), by repeat (first | exact Drawn0.refl _ | apply Drawn0.step)⟩
         ·rw [if_neg c14] at H
          have c14b0 : (x3_1 == 0) = false := beq_eq_false_iff_ne.mpr c14
          have c14b1 : (x3_1 != 0) = true := bne_iff_ne.mpr c14
          by_cases c15 : (bt a0 x3_1) = 43
          ·rw [if_pos c15] at H
           have c15b0 : ((bt a0 x3_1) == 43) = true := beq_iff_eq.mpr c15
           have c15b1 : ((bt a0 x3_1) != 43) = false := bne_eq_false_iff_eq.mpr c15
           clear c15
           have H' := Aside0.mk H
           clear H
           have p5 : 0 ≤ (x3_1 : Int) := of_decide_eq_true (by first | (with_reducible assumption) | assumption)
           have q5 : x3_1 < (a0.size : Int) := of_decide_eq_true (by first | (with_reducible assumption) | assumption)
           have hx5 := bt_at a0 x3_1
           replace p5 := eq_true p5
           replace q5 := eq_true q5
           go_wp2
           go_roundg k1
           case measure => have := HK1.out; omega
           case rel => exact ⟨(wrap64 (x3_1 + 1)), (by first | rfl | (simp; done) | (simp [*]; done)), H', ⟨by have := HK1.out; omega⟩, by repeat (first | exact Drawn0.refl _ | apply Drawn0.step)⟩
          ·rw [if_neg c15] at H
           have c15b0 : ((bt a0 x3_1) == 43) = false := beq_eq_false_iff_ne.mpr c15
           have c15b1 : ((bt a0 x3_1) != 43) = true := bne_iff_ne.mpr c15
           by_cases c16 : (bt a0 x3_1) = 45
           ·rw [if_pos c16] at H
            have c16b0 : ((bt a0 x3_1) == 45) = true := beq_iff_eq.mpr c16
            have c16b1 : ((bt a0 x3_1) != 45) = false := bne_eq_false_iff_eq.mpr c16
            clear c16
            have H' := Aside0.mk H
            clear H
            have p5 : 0 ≤ (x3_1 : Int) := of_decide_eq_true (by first | (with_reducible assumption) | assumption)
            have q5 : x3_1 < (a0.size : Int) := of_decide_eq_true (by first | (with_reducible assumption) | assumption)
            have hx5 := bt_at a0 x3_1
            replace p5 := eq_true p5
            replace q5 := eq_true q5
            go_wp2
            go_roundg k1
            case measure => have := HK1.out; omega
            case rel => exact ⟨(wrap64 (x3_1 + 1)), (by first | rfl | (simp; done) | (simp [*]; done)), H', ⟨by have := HK1.out; omega⟩, by repeat (first | exact Drawn0.refl _ | apply Drawn0.step)⟩
           ·rw [if_neg c16] at H
            have c16b0 : ((bt a0 x3_1) == 45) = false := beq_eq_false_iff_ne.mpr c16
            have c16b1 : ((bt a0 x3_1) != 45) = true := bne_iff_ne.mpr c16
            by_cases c17 : (bt a0 x3_1) = 46
            ·rw [if_pos c17] at H
             have c17b0 : ((bt a0 x3_1) == 46) = true := beq_iff_eq.mpr c17
             have c17b1 : ((bt a0 x3_1) != 46) = false := bne_eq_false_iff_eq.mpr c17
             clear c17
             have H' := Aside0.mk H
             clear H
             have p5 : 0 ≤ (x3_1 : Int) := of_decide_eq_true (by first | (with_reducible assumption) | assumption)
             have q5 : x3_1 < (a0.size : Int) := of_decide_eq_true (by first | (with_reducible assumption) | assumption)
             have hx5 := bt_at a0 x3_1
             replace p5 := eq_true p5
             replace q5 := eq_true q5
             go_wp2
             go_roundg k1
             case measure => have := HK1.out; omega
             case rel => exact ⟨(wrap64 (x3_1 + 1)), (by first | rfl | (simp; done) | (simp [*]; done)), H', ⟨by have := HK1.out; omega⟩, by repeat (first | exact Drawn0.refl _ | apply Drawn0.step)⟩
            ·rw [if_neg c17] at H
             have c17b0 : ((bt a0 x3_1) == 46) = false := beq_eq_false_iff_ne.mpr c17
             have c17b1 : ((bt a0 x3_1) != 46) = true := bne_iff_ne.mpr c17
             obtain rfl := Option.some.inj H
             have p5 : 0 ≤ (x3_1 : Int) := of_decide_eq_true (by first | (with_reducible assumption) | assumption)
             have q5 : x3_1 < (a0.size : Int) := of_decide_eq_true (by first | (with_reducible assumption) | assumption)
             have hx5 := bt_at a0 x3_1
             replace p5 := eq_true p5
             replace q5 := eq_true q5
             go_wp2
             go_ret
             exact ⟨by first | rfl | (simp; done) | (simp [*]; done), by repeat (first | exact Drawn0.refl _ | apply Drawn0.step)⟩
      ·rw [if_neg c6] at H
       have c6b0 : decide (97 ≤ (bt a0 x3_1)) = false := decide_eq_false c6
       clear c6
       by_cases c18 : (bt a0 x3_1) ≥ 48
       ·rw [if_pos c18] at H
        have c18b0 : decide (48 ≤ (bt a0 x3_1)) = true := decide_eq_true c18
        clear c18
        by_cases c19 : ((bt a0 x3_1) ≤ 57)
        ·rw [if_pos c19] at H
         have c19b0 : decide ((bt a0 x3_1) ≤ 57) = true := decide_eq_true c19
         clear c19
         have H' := Aside0.mk H
         clear H
         have p5 : 0 ≤ (x3_1 : Int) := of_decide_eq_true (by first | (with_reducible assumption) | assumption)
         have q5 : x3_1 < (a0.size : Int) := of_decide_eq_true (by first | (with_reducible assumption) | assumption)
         have hx5 := bt_at a0 x3_1
         replace p5 := eq_true p5
         replace q5 := eq_true q5
         go_wp2
         go_roundg k1
         case measure => have := HK1.out; omega
         case rel => exact ⟨(wrap64 (x3_1 + 1)), (by first | rfl | (simp; done) | (simp [*]; done)), H', ⟨by have := HK1.out; omega⟩, by repeat (first | exact Drawn0.refl _ | apply Drawn0.step)⟩
        ·rw [if_neg c19] at H
         have c19b0 : decide ((bt a0 x3_1) ≤ 57) = false := decide_eq_false c19
         clear c19
         by_cases c20 : x3_1 = 0
         ·rw [if_pos c20] at H
          have c20b0 : (x3_1 == 0) = true := beq_iff_eq.mpr c20
          have c20b1 : (x3_1 != 0) = false := bne_eq_false_iff_eq.mpr c20
          clear c20
          obtain rfl := Option.some.inj H
          have p5 : 0 ≤ (x3_1 : Int) := of_decide_eq_true (by first | (with_reducible assumption) | assumption)
          have q5 : x3_1 < (a0.size : Int) := of_decide_eq_true (by first | (with_reducible assumption) | assumption)
          have hx5 := bt_at a0 x3_1
          replace p5 := eq_true p5
          replace q5 := eq_true q5
          go_wp2
          go_ret
          exact ⟨by first | rfl | (simp; done) | (simp [*]; done), by repeat (first | exact Drawn0.refl _ | apply Drawn0.step)⟩
         ·rw [if_neg c20] at H
          have c20b0 : (x3_1 == 0) = false := beq_eq_false_iff_ne.mpr c20
          have c20b1 : (x3_1 != 0) = true := bne_iff_ne.mpr c20
          by_cases c21 : (bt a0 x3_1) = 43
          ·rw [if_pos c21] at H
           have c21b0 : ((bt a0 x3_1) == 43) = true := beq_iff_eq.mpr c21
           have c21b1 : ((bt a0 x3_1) != 43) = false := bne_eq_false_iff_eq.mpr c21
           clear c21
           have H' := Aside0.mk H
           clear H
           have p5 : 0 ≤ (x3_1 : Int) := of_decide_eq_true (by first | (with_reducible assumption) | assumption)
           have q5 : x3_1 < (a0.size : Int) := of_decide_eq_true (by first | (with_reducible assumption) | assumption)
           have hx5 := bt_at a0 x3_1
           replace p5 := eq_true p5
           replace q5 := eq_true q5
           go_wp2
           go_roundg k1
           case measure => have := HK1.out; omega
           case rel => exact ⟨(wrap64 (x3_1 + 1)), (by first | rfl | (simp; done) | (simp [*]; done)), H', ⟨by have := HK1.out; omega⟩, by repeat (first | exact Drawn0.refl _ | apply Drawn0.step)⟩
          ·rw [if_neg c21] at H
           have c21b0 : ((bt a0 x3_1) == 43) = false := beq_eq_false_iff_ne.mpr c21
           have c21b1 : ((bt a0 x3_1) != 43) = true := bne_iff_ne.mpr c21
           by_cases c22 : (bt a0 x3_1) = 45
           ·rw [if_pos c22] at H
            have c22b0 : ((bt a0 x3_1) == 45) = true := beq_iff_eq.mpr c22
            have c22b1 : ((bt a0 x3_1) != 45) = false := bne_eq_false_iff_eq.mpr c22
            clear c22
            have H' := Aside0.mk H
            clear H
            have p5 : 0 ≤ (x3_1 : Int) := of_decide_eq_true (by first | (with_reducible assumption) | assumption)
            have q5 : x3_1 < (a0.size : Int) := of_decide_eq_true (by first | (with_reducible assumption) | assumption)
            have hx5 := bt_at a0 x3_1
            replace p5 := eq_true p5
            replace q5 := eq_true q5
            go_wp2
            go_roundg k1
            case measure => have := HK1.out; omega
            case rel => exact ⟨(wrap64 (x3_1 + 1)), (by first | rfl | (simp; done) | (simp [*]; done)), H', ⟨by have := HK1.out; omega⟩, by repeat (first | exact Drawn0.refl _ | apply Drawn0.step)⟩
           ·rw [if_neg c22] at H
            have c22b0 : ((bt a0 x3_1) == 45) = false := beq_eq_false_iff_ne.mpr c22
            have c22b1 : ((bt a0 x3_1) != 45) = true := bne_iff_ne.mpr c22
            by_cases c23 : (bt a0 x3_1) = 46
            ·rw [if_pos c23] at H
             have c23b0 : ((bt a0 x3_1) == 46) = true := beq_iff_eq.mpr c23
             have c23b1 : ((bt a0 x3_1) != 46) = false := bne_eq_false_iff_eq.mpr c23
             clear c23
             have H' := Aside0.mk H
             clear H
             have p5 : 0 ≤ (x3_1 : Int) := of_decide_eq_true (by first | (with_reducible assumption) | assumption)
             have q5 : x3_1 < (a0.size : Int) := of_decide_eq_true (by first | (with_reducible assumption) | assumption)
             have hx5 := bt_at a0 x3_1
             replace p5 := eq_true p5
             replace q5 := eq_true q5
             go_wp2
             go_roundg k1
             case measure => have := HK1.out; omega
             case rel => exact ⟨(wrap64 (x3_1 + 1)), (by first | rfl | (simp; done) | (simp [*]; done)), H', ⟨by have := HK1.out; omega⟩, by repeat (first | exact Drawn0.refl _ | apply Drawn0.step)⟩
            ·rw [if_neg c23] at H
             have c23b0 : ((bt a0 x3_1) == 46) = false := beq_eq_false_iff_ne.mpr c23
             have c23b1 : ((bt a0 x3_1) != 46) = true := bne_iff_ne.mpr c23
             obtain rfl := Option.some.inj H
             have p5 : 0 ≤ (x3_1 : Int) := of_decide_eq_true (by first | (with_reducible assumption) | assumption)
             have q5 : x3_1 < (a0.size : Int) := of_decide_eq_true (by first | (with_reducible assumption) | assumption)
             have hx5 := bt_at a0 x3_1
             replace p5 := eq_true p5
             replace q5 := eq_true q5
             go_wp2
             go_ret
             exact ⟨by first | rfl | (simp; done) | (simp [*]; done), by repeat (first | exact Drawn0.refl _ | apply Drawn0.step)⟩
       ·rw [if_neg c18] at H
        have c18b0 : decide (48 ≤ (bt a0 x3_1)) = false := decide_eq_false c18
        clear c18
        by_cases c24 : x3_1 = 0
        ·rw [if_pos c24] at H
         have c24b0 : (x3_1 == 0) = true := beq_iff_eq.mpr c24
         have c24b1 : (x3_1 != 0) = false := bne_eq_false_iff_eq.mpr c24
         clear c24
         obtain rfl := Option.some.inj H
         have p5 : 0 ≤ (x3_1 : Int) := of_decide_eq_true (by first | (with_reducible assumption) | assumption)
         have q5 : x3_1 < (a0.size : Int) := of_decide_eq_true (by first | (with_reducible assumption) | assumption)
         have hx5 := bt_at a0 x3_1
         replace p5 := eq_true p5
         replace q5 := eq_true q5
         go_wp2
         go_ret
         exact ⟨by first | rfl | (simp; done) | (simp [*]; done), by repeat (first | exact Drawn0.refl _ | apply Drawn0.step)⟩
        ·rw [if_neg c24] at H
         have c24b0 : (x3_1 == 0) = false := beq_eq_false_iff_ne.mpr c24
         have c24b1 : (x3_1 != 0) = true := bne_iff_ne.mpr c24
         by_cases c25 : (bt a0 x3_1) = 43
         ·rw [if_pos c25] at H
          have c25b0 : ((bt a0 x3_1) == 43) = true := beq_iff_eq.mpr c25
          have c25b1 : ((bt a0 x3_1) != 43) = false := bne_eq_false_iff_eq.mpr c25
          clear c25
          have H' := Aside0.mk H
          clear H
          have p5 : 0 ≤ (x3_1 : Int) := of_decide_eq_true (by first | (with_reducible assumption) | assumption)
          have q5 : x3_1 < (a0.size : Int) := of_decide_eq_true (by first | (with_reducible assumption) | assumption)
          have hx5 := bt_at a0 x3_1
          replace p5 := eq_true p5
          replace q5 := eq_true q5
          go_wp2
          go_roundg k1
          case measure => have := HK1.out; omega
          case rel => exact ⟨(wrap64 (x3_1 + 1)), (by first | rfl | (simp; done) | (simp [*]; done)), H', ⟨by have := HK1.out; omega⟩, by repeat (first | exact Drawn0.refl _ | apply Drawn0.step)⟩
         ·rw [if_neg c25] at H
          have c25b0 : ((bt a0 x3_1) == 43) = false := beq_eq_false_iff_ne.mpr c25
          have c25b1 : ((bt a0 x3_1) != 43) = true := bne_iff_ne.mpr c25
          by_cases c26 : (bt a0 x3_1) = 45
          ·rw [if_pos c26] at H
           have c26b0 : ((bt a0 x3_1) == 45) = true := beq_iff_eq.mpr c26
           have c26b1 : ((bt a0 x3_1) != 45) = false := bne_eq_false_iff_eq.mpr c26
           clear c26
           have H' := Aside0.mk H
           clear H
           have p5 : 0 ≤ (x3_1 : Int) := of_decide_eq_true (by first | (with_reducible assumption) | assumption)
           have q5 : x3_1 < (a0.size : Int) := of_decide_eq_true (by first | (with_reducible assumption) | assumption)
           have hx5 := bt_at a0 x3_1
           replace p5 := eq_true p5
           replace q5 := eq_true q5
           go_wp2
           go_roundg k1
           case measure => have := HK1.out; omega
           case rel => exact ⟨(wrap64 (x3_1 + 1)), (by first | rfl | (simp; done) | (simp [*]; done)), H', ⟨by have := HK1.out; omega⟩, by repeat (first | exact Drawn0.refl _ | apply Drawn0.step)⟩
          ·rw [if_neg c26] at H
           have c26b0 : ((bt a0 x3_1) == 45) = false := beq_eq_false_iff_ne.mpr c26
           have c26b1 : ((bt a0 x3_1) != 45) = true := bne_iff_ne.mpr c26
           by_cases c27 : (bt a0 x3_1) = 46
           ·rw [if_pos c27] at H
            have c27b0 : ((bt a0 x3_1) == 46) = true := beq_iff_eq.mpr c27
            have c27b1 : ((bt a0 x3_1) != 46) = false := bne_eq_false_iff_eq.mpr c27
            clear c27
            have H' := Aside0.mk H
            clear H
            have p5 : 0 ≤ (x3_1 : Int) := of_decide_eq_true (by first | (with_reducible assumption) | assumption)
            have q5 : x3_1 < (a0.size : Int) := of_decide_eq_true (by first | (with_reducible assumption) | assumption)
            have hx5 := bt_at a0 x3_1
            replace p5 := eq_true p5
            replace q5 := eq_true q5
            go_wp2
            go_roundg k1
            case measure => have := HK1.out; omega
            case rel => exact ⟨(wrap64 (x3_1 + 1)), (by first | rfl | (simp; done) | (simp [*]; done)), H', ⟨by have := HK1.out; omega⟩, by repeat (first | exact Drawn0.refl _ | apply Drawn0.step)⟩
           ·rw [if_neg c27] at H
            have c27b0 : ((bt a0 x3_1) == 46) = false := beq_eq_false_iff_ne.mpr c27
            have c27b1 : ((bt a0 x3_1) != 46) = true := bne_iff_ne.mpr c27
            obtain rfl := Option.some.inj H
            have p5 : 0 ≤ (x3_1 : Int) := of_decide_eq_true (by first | (with_reducible assumption) | assumption)
            have q5 : x3_1 < (a0.size : Int) := of_decide_eq_true (by first | (with_reducible assumption) | assumption)
            have hx5 := bt_at a0 x3_1
            replace p5 := eq_true p5
            replace q5 := eq_true q5
            go_wp2
            go_ret
            exact ⟨by first | rfl | (simp; done) | (simp [*]; done), by repeat (first | exact Drawn0.refl _ | apply Drawn0.step)⟩
     ·rw [if_neg c4] at H
      exact absurd H (by simp)
    ·rw [if_neg c3] at H
     have c3b0 : decide (x3_1 < (a0.size : Int)) = false := decide_eq_false c3
     clear c3
     obtain rfl := Option.some.inj H
     go_wp2
     go_ret
     exact ⟨by first | rfl | (simp; done) | (simp [*]; done), by repeat (first | exact Drawn0.refl _ | apply Drawn0.step)⟩
end Go.Proofs.YtmocooihkobdjaaDoor.Q
end
section
namespace Go.Proofs.YtmocooihkobdjaaDoor.Q
open Go.RowKit Go.Proofs.YtmocooihkobdjaaDoorW.PrintWords Go.Proofs.YtmocooihkobdjaaDoorW.PrintLast Go.Proofs.YtmocooihkobdjaaDoorW.PrintMore
attribute [local go_sem] max2_int min2_int max_two min_two max_three min_three max_four min_four
set_option linter.unusedVariables false
set_option linter.unusedSimpArgs false
def depotref22_Sign.f (a0 : Int) : Option (ByteArray) := if a0 = 1 then (some (⟨#[60, 60]⟩ : ByteArray)) else (if a0 = 2 then (some (⟨#[60, 61]⟩ : ByteArray)) else (if a0 = 3 then (some (⟨#[61]⟩ : ByteArray)) else (if a0 = 4 then (some (⟨#[62, 61]⟩ : ByteArray)) else (if a0 = 5 then (some (⟨#[62, 62]⟩ : ByteArray)) else (some (⟨#[]⟩ : ByteArray))))))
set_option maxHeartbeats 8000000 in
set_option maxRecDepth 100000 in
theorem depotref22_Sign.calls (a0 : Int) (r : ByteArray) (w : World) (h : depotref22_Sign.f a0 = some r) :
  Calls Tryd.prog 52 #[.int .i64 a0] w fun e w' => e = .returned (.string r) ∧ Drawn0 w w' := by
 have H : (if a0 = 1 then (some (⟨#[60, 60]⟩ : ByteArray)) else (if a0 = 2 then (some (⟨#[60, 61]⟩ : ByteArray)) else (if a0 = 3 then (some (⟨#[61]⟩ : ByteArray)) else (if a0 = 4 then (some (⟨#[62, 61]⟩ : ByteArray)) else (if a0 = 5 then (some (⟨#[62, 62]⟩ : ByteArray)) else (some (⟨#[]⟩ : ByteArray))))))) = some r := h
 clear h
 by_cases c2 : a0 = 1
 ·rw [if_pos c2] at H
  have c2b0 : (a0 == 1) = true := beq_iff_eq.mpr c2
  have c2b1 : (a0 != 1) = false := bne_eq_false_iff_eq.mpr c2
  clear c2
  obtain rfl := Option.some.inj H
  go_enter Tryd.func52, Tryd.ntmps52
  go_wp2
  go_ret
  exact ⟨by first | rfl | (simp; done) | (simp [*]; done), by repeat (first | exact Drawn0.refl _ | apply Drawn0.step)⟩
 ·rw [if_neg c2] at H
  have c2b0 : (a0 == 1) = false := beq_eq_false_iff_ne.mpr c2
  have c2b1 : (a0 != 1) = true := bne_iff_ne.mpr c2
  by_cases c3 : a0 = 2
  ·rw [if_pos c3] at H
   have c3b0 : (a0 == 2) = true := beq_iff_eq.mpr c3
   have c3b1 : (a0 != 2) = false := bne_eq_false_iff_eq.mpr c3
   clear c3
   obtain rfl := Option.some.inj H
   go_enter Tryd.func52, Tryd.ntmps52
   go_wp2
   go_ret
   exact ⟨by first | rfl | (simp; done) | (simp [*]; done), by repeat (first | exact Drawn0.refl _ | apply Drawn0.step)⟩
  ·rw [if_neg c3] at H
   have c3b0 : (a0 == 2) = false := beq_eq_false_iff_ne.mpr c3
   have c3b1 : (a0 != 2) = true := bne_iff_ne.mpr c3
   by_cases c4 : a0 = 3
   ·rw [if_pos c4] at H
    have c4b0 : (a0 == 3) = true := beq_iff_eq.mpr c4
    have c4b1 : (a0 != 3) = false := bne_eq_false_iff_eq.mpr c4
    clear c4
    obtain rfl := Option.some.inj H
    go_enter Tryd.func52, Tryd.ntmps52
    go_wp2
    go_ret
    exact ⟨by first | rfl | (simp; done) | (simp [*]; done), by repeat (first | exact Drawn0.refl _ | apply Drawn0.step)⟩
   ·rw [if_neg c4] at H
    have c4b0 : (a0 == 3) = false := beq_eq_false_iff_ne.mpr c4
    have c4b1 : (a0 != 3) = true := bne_iff_ne.mpr c4
    by_cases c5 : a0 = 4
    ·rw [if_pos c5] at H
     have c5b0 : (a0 == 4) = true := beq_iff_eq.mpr c5
     have c5b1 : (a0 != 4) = false := bne_eq_false_iff_eq.mpr c5
     clear c5
     obtain rfl := Option.some.inj H
     go_enter Tryd.func52, Tryd.ntmps52
     go_wp2
     go_ret
     exact ⟨by first | rfl | (simp; done) | (simp [*]; done), by repeat (first | exact Drawn0.refl _ | apply Drawn0.step)⟩
    ·rw [if_neg c5] at H
     have c5b0 : (a0 == 4) = false := beq_eq_false_iff_ne.mpr c5
     have c5b1 : (a0 != 4) = true := bne_iff_ne.mpr c5
     by_cases c6 : a0 = 5
     ·rw [if_pos c6] at H
      have c6b0 : (a0 == 5) = true := beq_iff_eq.mpr c6
      have c6b1 : (a0 != 5) = false := bne_eq_false_iff_eq.mpr c6
      clear c6
      obtain rfl := Option.some.inj H
      go_enter Tryd.func52, Tryd.ntmps52
      go_wp2
      go_ret
      exact ⟨by first | rfl | (simp; done) | (simp [*]; done), by repeat (first | exact Drawn0.refl _ | apply Drawn0.step)⟩
     ·rw [if_neg c6] at H
      have c6b0 : (a0 == 5) = false := beq_eq_false_iff_ne.mpr c6
      have c6b1 : (a0 != 5) = true := bne_iff_ne.mpr c6
      obtain rfl := Option.some.inj H
      go_enter Tryd.func52, Tryd.ntmps52
      go_wp2
      go_ret
      exact ⟨by first | rfl | (simp; done) | (simp [*]; done), by repeat (first | exact Drawn0.refl _ | apply Drawn0.step)⟩
end Go.Proofs.YtmocooihkobdjaaDoor.Q
end
section
namespace Go.Proofs.YtmocooihkobdjaaDoor.Q
open Go.RowKit Go.Proofs.YtmocooihkobdjaaDoorW.PrintWords Go.Proofs.YtmocooihkobdjaaDoorW.PrintLast Go.Proofs.YtmocooihkobdjaaDoorW.PrintMore
attribute [local go_sem] max2_int min2_int max_two min_two max_three min_three max_four min_four
set_option linter.unusedVariables false
set_option linter.unusedSimpArgs false
def depotref20_first.l0 : Nat → ByteArray → Int → Int → Option (Int)
 | 0, _, _, _ => none
 | k + 1, x0, x1, x5 => if x5 < (x0.size : Int) then (if 0 ≤ x5 then (if (bt x0 x5) = x1 then (some x5) else (depotref20_first.l0 k x0 x1 (wrap64 (x5 + 1)))) else (none)) else (some (-1))
def depotref20_first.f (k : Nat) (a0 : ByteArray) (a1 : Int) : Option (Int) := depotref20_first.l0 k a0 a1 0
theorem depotref20_first.mono_l : ∀ k, (∀ y0 y1 y2, LeO (depotref20_first.l0 k y0 y1 y2) (depotref20_first.l0 (k + 1) y0 y1 y2))
 | 0 => fun _ _ _ r h => by simp [depotref20_first.l0] at h
 | k + 1 => by
  have ih0 := depotref20_first.mono_l k
  ·intro y0 y1 y2
   unfold depotref20_first.l0
   repeat' first
   | (with_reducible exact ih0 _ _ _)
   | (with_reducible exact LeO.refl _)
   | (with_reducible exact LeO.none _)
   | (with_reducible refine LeO.ite ?_ ?_)
   | (with_reducible refine LeO.bind ?_ (fun _ => ?_))
   | exact ih0 _ _ _
   | exact LeO.none _
   | refine LeO.ite ?_ ?_
   | refine LeO.bind ?_ (fun _ => ?_)
theorem depotref20_first.mono : ∀ a0 a1 k, LeO (depotref20_first.f k a0 a1) (depotref20_first.f (k + 1) a0 a1) := by
 intro a0 a1 k
 have ih0 := depotref20_first.mono_l k
 unfold depotref20_first.f
 repeat' first
   | (with_reducible exact ih0 _ _ _)
   | (with_reducible exact LeO.refl _)
   | (with_reducible exact LeO.none _)
   | (with_reducible refine LeO.ite ?_ ?_)
   | (with_reducible refine LeO.bind ?_ (fun _ => ?_))
   | exact ih0 _ _ _
   | exact LeO.none _
   | refine LeO.ite ?_ ?_
   | refine LeO.bind ?_ (fun _ => ?_)
set_option maxHeartbeats 8000000 in
set_option maxRecDepth 100000 in
theorem depotref20_first.calls (k : Nat) (a0 : ByteArray) (a1 : Int) (r : Int) (w : World) (h : depotref20_first.f k a0 a1 = some r) :
  Calls Tryd.prog 95 #[.string a0, .int .u8 a1] w fun e w' => e = .returned (.int .i64 r) ∧ Drawn0 w w' := by
 have H : (depotref20_first.l0 k a0 a1 0) = some r := h
 clear h
 have H' := Aside0.mk H
 clear H
 go_enter Tryd.func95, Tryd.ntmps95
 go_wp2
 go_loopg [5] k (fun kq v5 w' => ∃ (x5_1 : Int), v5 = .int .i64 x5_1 ∧ Aside0 (depotref20_first.l0 kq a0 a1 x5_1 = some r) ∧ Aside0 (kq ≤ k) ∧ Drawn0 w w')
 case atStart => exact ⟨(0), (by first | rfl | (simp; done) | (simp [*]; done)), H', ⟨Nat.le_refl _⟩, by repeat (first | exact Drawn0.refl _ | apply Drawn0.step)⟩
 case round =>
  clear H'
  try clear p2
  obtain ⟨x5_1, rfl, HA, HK1, ⟨m1, rfl⟩⟩ := hrel
  cases gk with
  | zero => exact absurd HA.out (by simp [depotref20_first.l0])
  | succ k1 =>
   have H := HA.out
   clear HA
   simp only [depotref20_first.l0] at H
   by_cases c3 : x5_1 < (a0.size : Int)
   ·rw [if_pos c3] at H
    have c3b0 : decide (x5_1 < (a0.size : Int)) = true := decide_eq_true c3
    clear c3
    by_cases c4 : 0 ≤ x5_1
    ·rw [if_pos c4] at H
     have c4b0 : decide (0 ≤ x5_1) = true := decide_eq_true c4
     clear c4
     by_cases c6 : (bt a0 x5_1) = a1
     ·rw [if_pos c6] at H
      have c6b0 : ((bt a0 x5_1) == a1) = true := beq_iff_eq.mpr c6
      have c6b1 : ((bt a0 x5_1) != a1) = false := bne_eq_false_iff_eq.mpr c6
      clear c6
      obtain rfl := Option.some.inj H
      have p5 : 0 ≤ (x5_1 : Int) := of_decide_eq_true (by first | (with_reducible assumption) | assumption)
      have q5 : x5_1 < (a0.size : Int) := of_decide_eq_true (by first | (with_reducible assumption) | assumption)
      have hx5 := bt_at a0 x5_1
      replace p5 := eq_true p5
      replace q5 := eq_true q5
      go_wp2
      go_ret
      exact ⟨by first | rfl | (simp; done) | (simp [*]; done), by repeat (first | exact Drawn0.refl _ | apply Drawn0.step)⟩
     ·rw [if_neg c6] at H
      have c6b0 : ((bt a0 x5_1) == a1) = false := beq_eq_false_iff_ne.mpr c6
      have c6b1 : ((bt a0 x5_1) != a1) = true := bne_iff_ne.mpr c6
      have H' := Aside0.mk H
      clear H
      have p5 : 0 ≤ (x5_1 : Int) := of_decide_eq_true (by first | (with_reducible assumption) | assumption)
      have q5 : x5_1 < (a0.size : Int) := of_decide_eq_true (by first | (with_reducible assumption) | assumption)
      have hx5 := bt_at a0 x5_1
      replace p5 := eq_true p5
      replace q5 := eq_true q5
      go_wp2
      go_roundg k1
      case measure => have := HK1.out; omega
      case rel => exact ⟨(wrap64 (x5_1 + 1)), (by first | rfl | (simp; done) | (simp [*]; done)), H', ⟨by have := HK1.out; omega⟩, by repeat (first | exact Drawn0.refl _ | apply Drawn0.step)⟩
    ·rw [if_neg c4] at H
     exact absurd H (by simp)
   ·rw [if_neg c3] at H
    have c3b0 : decide (x5_1 < (a0.size : Int)) = false := decide_eq_false c3
    clear c3
    obtain rfl := Option.some.inj H
    go_wp2
    go_ret
    exact ⟨by first | rfl | (simp; done) | (simp [*]; done), by repeat (first | exact Drawn0.refl _ | apply Drawn0.step)⟩
end Go.Proofs.YtmocooihkobdjaaDoor.Q
end
section
namespace Go.Proofs.YtmocooihkobdjaaDoor.Q
open Go.RowKit Go.Proofs.YtmocooihkobdjaaDoorW.PrintWords Go.Proofs.YtmocooihkobdjaaDoorW.PrintLast Go.Proofs.YtmocooihkobdjaaDoorW.PrintMore
attribute [local go_sem] max2_int min2_int max_two min_two max_three min_three max_four min_four
set_option linter.unusedVariables false
set_option linter.unusedSimpArgs false
def depotref20_last.l0 : Nat → ByteArray → Int → Int → Option (Int)
 | 0, _, _, _ => none
 | k + 1, x0, x1, x5 => if x5 ≥ 0 then (if 0 ≤ x5 then (if x5 < (x0.size : Int) then (if (bt x0 x5) = x1 then (some x5) else (depotref20_last.l0 k x0 x1 (wrap64 (x5 - 1)))) else (none)) else (none)) else (some (-1))
def depotref20_last.f (k : Nat) (a0 : ByteArray) (a1 : Int) : Option (Int) := depotref20_last.l0 k a0 a1 (wrap64 ((a0.size : Int) - 1))
theorem depotref20_last.mono_l : ∀ k, (∀ y0 y1 y2, LeO (depotref20_last.l0 k y0 y1 y2) (depotref20_last.l0 (k + 1) y0 y1 y2))
 | 0 => fun _ _ _ r h => by simp [depotref20_last.l0] at h
 | k + 1 => by
  have ih0 := depotref20_last.mono_l k
  ·intro y0 y1 y2
   unfold depotref20_last.l0
   repeat' first
   | (with_reducible exact ih0 _ _ _)
   | (with_reducible exact LeO.refl _)
   | (with_reducible exact LeO.none _)
   | (with_reducible refine LeO.ite ?_ ?_)
   | (with_reducible refine LeO.bind ?_ (fun _ => ?_))
   | exact ih0 _ _ _
   | exact LeO.none _
   | refine LeO.ite ?_ ?_
   | refine LeO.bind ?_ (fun _ => ?_)
theorem depotref20_last.mono : ∀ a0 a1 k, LeO (depotref20_last.f k a0 a1) (depotref20_last.f (k + 1) a0 a1) := by
 intro a0 a1 k
 have ih0 := depotref20_last.mono_l k
 unfold depotref20_last.f
 repeat' first
   | (with_reducible exact ih0 _ _ _)
   | (with_reducible exact LeO.refl _)
   | (with_reducible exact LeO.none _)
   | (with_reducible refine LeO.ite ?_ ?_)
   | (with_reducible refine LeO.bind ?_ (fun _ => ?_))
   | exact ih0 _ _ _
   | exact LeO.none _
   | refine LeO.ite ?_ ?_
   | refine LeO.bind ?_ (fun _ => ?_)
set_option maxHeartbeats 8000000 in
set_option maxRecDepth 100000 in
theorem depotref20_last.calls (k : Nat) (a0 : ByteArray) (a1 : Int) (r : Int) (w : World) (h : depotref20_last.f k a0 a1 = some r) :
  Calls Tryd.prog 96 #[.string a0, .int .u8 a1] w fun e w' => e = .returned (.int .i64 r) ∧ Drawn0 w w' := by
 have H : (depotref20_last.l0 k a0 a1 (wrap64 ((a0.size : Int) - 1))) = some r := h
 clear h
 have H' := Aside0.mk H
 clear H
 go_enter Tryd.func96, Tryd.ntmps96
 go_wp2
 go_loopg [5] k (fun kq v5 w' => ∃ (x5_1 : Int), v5 = .int .i64 x5_1 ∧ Aside0 (depotref20_last.l0 kq a0 a1 x5_1 = some r) ∧ Aside0 (kq ≤ k) ∧ Drawn0 w w')
 case atStart => exact ⟨(wrap64 ((a0.size : Int) - 1)), (by first | rfl | (simp; done) | (simp [*]; done)), H', ⟨Nat.le_refl _⟩, by repeat (first | exact Drawn0.refl _ | apply Drawn0.step)⟩
 case round =>
  clear H'
  try clear p2
  obtain ⟨x5_1, rfl, HA, HK1, ⟨m1, rfl⟩⟩ := hrel
  cases gk with
  | zero => exact absurd HA.out (by simp [depotref20_last.l0])
  | succ k1 =>
   have H := HA.out
   clear HA
   simp only [depotref20_last.l0] at H
   by_cases c3 : x5_1 ≥ 0
   ·rw [if_pos c3] at H
    have c3b0 : decide (0 ≤ x5_1) = true := decide_eq_true c3
    clear c3
    by_cases c4 : 0 ≤ x5_1
    ·rw [if_pos c4] at H
     have c4b0 : decide (0 ≤ x5_1) = true := decide_eq_true c4
     clear c4
     by_cases c5 : x5_1 < (a0.size : Int)
     ·rw [if_pos c5] at H
      have c5b0 : decide (x5_1 < (a0.size : Int)) = true := decide_eq_true c5
      clear c5
      by_cases c7 : (bt a0 x5_1) = a1
      ·rw [if_pos c7] at H
       have c7b0 : ((bt a0 x5_1) == a1) = true := beq_iff_eq.mpr c7
       have c7b1 : ((bt a0 x5_1) != a1) = false := bne_eq_false_iff_eq.mpr c7
       clear c7
       obtain rfl := Option.some.inj H
       have p6 : 0 ≤ (x5_1 : Int) := of_decide_eq_true (by first | (with_reducible assumption) | assumption)
       have q6 : x5_1 < (a0.size : Int) := of_decide_eq_true (by first | (with_reducible assumption) | assumption)
       have hx6 := bt_at a0 x5_1
       replace p6 := eq_true p6
       replace q6 := eq_true q6
       go_wp2
       go_ret
       exact ⟨by first | rfl | (simp; done) | (simp [*]; done), by repeat (first | exact Drawn0.refl _ | apply Drawn0.step)⟩
      ·rw [if_neg c7] at H
       have c7b0 : ((bt a0 x5_1) == a1) = false := beq_eq_false_iff_ne.mpr c7
       have c7b1 : ((bt a0 x5_1) != a1) = true := bne_iff_ne.mpr c7
       have H' := Aside0.mk H
       clear H
       have p6 : 0 ≤ (x5_1 : Int) := of_decide_eq_true (by first | (with_reducible assumption) | assumption)
       have q6 : x5_1 < (a0.size : Int) := of_decide_eq_true (by first | (with_reducible assumption) | assumption)
       have hx6 := bt_at a0 x5_1
       replace p6 := eq_true p6
       replace q6 := eq_true q6
       go_wp2
       go_roundg k1
       case measure => have := HK1.out; omega
       case rel => exact ⟨(wrap64 (x5_1 - 1)), (by first | rfl | (simp; done) | (simp [*]; done)), H', ⟨by have := HK1.out; omega⟩, by repeat (first | exact Drawn0.refl _ | apply Drawn0.step)⟩
     ·rw [if_neg c5] at H
      exact absurd H (by simp)
    ·rw [if_neg c4] at H
     exact absurd H (by simp)
   ·rw [if_neg c3] at H
    have c3b0 : decide (0 ≤ x5_1) = false := decide_eq_false c3
    clear c3
    obtain rfl := Option.some.inj H
    go_wp2
    go_ret
    exact ⟨by first | rfl | (simp; done) | (simp [*]; done), by repeat (first | exact Drawn0.refl _ | apply Drawn0.step)⟩
end Go.Proofs.YtmocooihkobdjaaDoor.Q
end
section
namespace Go.Proofs.YtmocooihkobdjaaDoor.Q
open Go.RowKit Go.Proofs.YtmocooihkobdjaaDoorW.PrintWords Go.Proofs.YtmocooihkobdjaaDoorW.PrintLast Go.Proofs.YtmocooihkobdjaaDoorW.PrintMore
attribute [local go_sem] max2_int min2_int max_two min_two max_three min_three max_four min_four
set_option linter.unusedVariables false
set_option linter.unusedSimpArgs false
theorem two_newR (w : World) (o1 o2 : Obj) (n : Nat) : (((w.alloc o1).alloc o2).drewN n).heap[w.heap.size]? = some o1 ∧ (((w.alloc o1).alloc o2).drewN n).heap[w.heap.size + 1]? = some o2 ∧ Below w.heap.size w (((w.alloc o1).alloc o2).drewN n) := by
  refine ⟨blk_drewN (blk_alloc (blk_new w o1) o2) n, blk_drewN ?_ n, pw_below_drewN (below_alloc (below_alloc (Below.refl _ w) o1) o2) n⟩
  have := blk_new (w.alloc o1) o2
  rwa [World.size_alloc] at this
set_option maxHeartbeats 4000000 in
set_option maxRecDepth 1000000 in
theorem depotref20_parted.walk (k : Nat) (s : ByteArray) (i m : Int) (w : World) (hi : depotref20_first.f k s 58 = some i) (hm : depotref20_last.f k (restR s i) 45 = some m)
    (hi1 : i + 1 ≤ s.size) (hm1 : m + 1 ≤ (restR s i).size) (hsz : (s.size : Int) ≤ 140737488351232) (hsz2 : ((restR s i).size : Int) ≤ 140737488351232) :
    Calls Tryd.prog 73 #[.string s] w fun e w' => e = .returned (.agg #[.string (epochR s i), .string (upR (restR s i) m), .string (revR (restR s i) m), .bool (decide (0 ≤ i)), .bool (decide (0 ≤ m))]) ∧ Below w.heap.size w w' := by
  have Hi := Lib.hid hi; clear hi
  have Hm := Lib.hid hm; clear hm
  have hu31 := Tryd.underlying112
  go_enter Tryd.func73, Tryd.ntmps73
  go_upto_if 10 with (go_at_call 95; refine (depotref20_first.calls _ _ _ _ _ Hi.out).mono ?_; rintro e w' ⟨rfl, ⟨nd, rfl⟩⟩)
  obtain ⟨rest, Hrest⟩ : ∃ x, Hid (restR s i = x) := ⟨_, rfl⟩
  have Hm2 := Lib.hid (Hrest.out ▸ Hm.out)
  clear Hm
  have hm3 : m + 1 ≤ (rest.size : Int) := by rw [← Hrest.out]; exact hm1
  have hsz3 : (rest.size : Int) ≤ 140737488351232 := by rw [← Hrest.out]; exact hsz2
  clear hm1 hsz2
  have Hfin : Hid (∀ W : World, Ending.returned (Value.agg #[.string (epochR s i), .string (upR (restR s i) m), .string (revR (restR s i) m), .bool (decide (0 ≤ i)), .bool (decide (0 ≤ m))]) = Ending.returned (Value.agg #[.string (epochR s i), .string (upR rest m), .string (revR rest m), .bool (decide (0 ≤ i)), .bool (decide (0 ≤ m))]) ∧ W = W) := fun W => ⟨by rw [Hrest.out], rfl⟩
  go_cut [] (fun wx => Hid (wx.heap[w.heap.size]? = some (.cells #[.string emptyR, .string emptyR, .string emptyR, .bool false, .bool false] 112 (0, 0))) ∧ Hid (wx.heap[w.heap.size + 1]? = some (.cells #[.string (epochR s i), .string rest, .string emptyR, .bool (decide (0 ≤ i)), .bool false] 112 (0, 0))) ∧ Hid (Below w.heap.size w wx))
  case first =>
    obtain ⟨q1, q2, q3⟩ := two_newR w (.cells #[.string emptyR, .string emptyR, .string emptyR, .bool false, .bool false] 112 (0, 0)) (.cells #[.string emptyR, .string s, .string emptyR, .bool false, .bool false] 112 (0, 0)) nd
    have Q1 := Lib.hid q1; have Q2 := Lib.hid q2; have Q3 := Lib.hid q3
    clear q1 q2 q3
    by_cases h0 : 0 ≤ i
    · have hd : decide (0 ≤ i) = true := decide_eq_true h0
      have Hr := Lib.hid (Hrest.out.symm.trans (if_pos h0))
      have He : Hid (epochR s i = s.extract 0 i.toNat) := if_pos h0
      go_wp2_with fail
      go_meet
      refine ⟨blk_far (blk_far (blk_far Q1.out (by simp) _) (by simp) _) (by simp) _, ?_, below_set (below_set (below_set Q3.out (by simp)) (by simp)) (by simp)⟩
      rw [Hr.out, He.out, hd]
      exact blk_put (blk_put (blk_put Q2.out 0 _ rfl) 1 _ rfl) 3 _ rfl
    · have hd : decide (0 ≤ i) = false := decide_eq_false h0
      have Hr := Lib.hid (Hrest.out.symm.trans (if_neg h0))
      have He : Hid (epochR s i = emptyR) := if_neg h0
      go_wp2_with fail
      go_meet
      refine ⟨Q1.out, ?_, Q3.out⟩
      rw [Hr.out, He.out, hd]
      exact Q2.out
  case rest =>
    obtain ⟨hR, hP, hB⟩ := hcut
    obtain ⟨ep, Hep⟩ : ∃ x, Hid (epochR s i = x) := ⟨_, rfl⟩
    obtain ⟨bi, Hbi⟩ : ∃ x, Hid (decide (0 ≤ i) = x) := ⟨_, rfl⟩
    have hP1 := Lib.hid (Hbi.out ▸ Hep.out ▸ hP.out)
    clear hP
    have hc1 := blk_cell hP1.out 1
    simp only [List.getElem?_toArray, List.getElem?_cons_succ, List.getElem?_cons_zero] at hc1
    go_upto_if 25 with (go_at_call 96; refine (depotref20_last.calls _ _ _ _ _ Hm2.out).mono ?_; rintro e w' ⟨rfl, ⟨nd2, rfl⟩⟩)
    go_cut [] (fun wx => Hid (wx.heap[w.heap.size]? = some (.cells #[.string emptyR, .string emptyR, .string emptyR, .bool false, .bool false] 112 (0, 0))) ∧ Hid (wx.heap[w.heap.size + 1]? = some (.cells #[.string ep, .string (upR rest m), .string (revR rest m), .bool bi, .bool (decide (0 ≤ m))] 112 (0, 0))) ∧ Hid (Below w.heap.size w wx))
    case first =>
      by_cases h0 : 0 ≤ m
      · have hd : decide (0 ≤ m) = true := decide_eq_true h0
        have Hu : Hid (upR rest m = rest.extract 0 m.toNat) := if_pos h0
        have Hv : Hid (revR rest m = rest.extract (m + 1).toNat rest.size) := if_pos h0
        have hc2 := blk_cell hP1.out 2
        have hc4 := blk_cell hP1.out 4
        have hz1 := blk_frozen hP1.out 1
        have hz2 := blk_frozen hP1.out 2
        have hz4 := blk_frozen hP1.out 4
        simp only [List.getElem?_toArray, List.getElem?_cons_succ, List.getElem?_cons_zero] at hc2 hc4
        go_wp2_with fail
        go_meet
        refine ⟨blk_far (blk_far (blk_far (blk_drewN hR.out _) (by simp) _) (by simp) _) (by simp) _, ?_, below_set (below_set (below_set (pw_below_drewN hB.out _) (by simp)) (by simp)) (by simp)⟩
        rw [Hu.out, Hv.out, hd]
        exact blk_put (blk_put (blk_put (blk_drewN hP1.out _) 2 _ rfl) 1 _ rfl) 4 _ rfl
      · have hd : decide (0 ≤ m) = false := decide_eq_false h0
        have Hu : Hid (upR rest m = rest) := if_neg h0
        have Hv : Hid (revR rest m = emptyR) := if_neg h0
        go_wp2_with fail
        go_meet
        refine ⟨blk_drewN hR.out _, ?_, pw_below_drewN hB.out _⟩
        rw [Hu.out, Hv.out, hd]
        exact blk_drewN hP1.out _
    case rest =>
      obtain ⟨hR, hP2, hB⟩ := hcut
      clear hc1 hP1
      obtain ⟨u, Hu⟩ : ∃ x, Hid (upR rest m = x) := ⟨_, rfl⟩
      obtain ⟨v, Hv⟩ : ∃ x, Hid (revR rest m = x) := ⟨_, rfl⟩
      obtain ⟨bm, Hbm⟩ : ∃ x, Hid (decide (0 ≤ m) = x) := ⟨_, rfl⟩
      have hP := Lib.hid (Hbm.out ▸ Hu.out ▸ Hv.out ▸ hP2.out)
      clear hP2
      have hc0 := blk_cell hP.out 0
      have hc1 := blk_cell hP.out 1
      have hc2 := blk_cell hP.out 2
      have hc3 := blk_cell hP.out 3
      have hc4 := blk_cell hP.out 4
      have hr0 := blk_cell hR.out 0
      have hr1 := blk_cell hR.out 1
      have hr2 := blk_cell hR.out 2
      have hr3 := blk_cell hR.out 3
      have hr4 := blk_cell hR.out 4
      have hz0 := blk_frozen hR.out 0
      have hz1 := blk_frozen hR.out 1
      have hz2 := blk_frozen hR.out 2
      have hz3 := blk_frozen hR.out 3
      have hz4 := blk_frozen hR.out 4
      simp only [List.getElem?_toArray, List.getElem?_cons_succ, List.getElem?_cons_zero] at hc0 hc1 hc2 hc3 hc4 hr0 hr1 hr2 hr3 hr4
      go_wp2_with fail
      refine bodyPost_ret (results_cell_row rfl _ _ w.heap.size 112 #[.string ep, .string u, .string v, .bool bi, .bool bm] (0, 0) _ rfl (blk_put (blk_put (blk_put (blk_put (blk_put hR.out 0 _ rfl) 1 _ rfl) 2 _ rfl) 3 _ rfl) 4 _ rfl) Tryd.underlying112 rfl rfl) rfl ⟨?_, below_set (below_set (below_set (below_set (below_set hB.out (Nat.le_refl _)) (Nat.le_refl _)) (Nat.le_refl _)) (Nat.le_refl _)) (Nat.le_refl _)⟩
      rw [Hrest.out, Hu.out, Hv.out, Hep.out, Hbi.out, Hbm.out]
def depotref20_parted.f (k : Nat) (a0 : ByteArray) : Option (ByteArray × ByteArray × ByteArray × Bool × Bool) :=
  (depotref20_first.f k a0 58).bind fun i => (depotref20_last.f k (restR a0 i) 45).bind fun m =>
    if i + 1 ≤ a0.size ∧ m + 1 ≤ (restR a0 i).size ∧ (a0.size : Int) ≤ 140737488351232 ∧ ((restR a0 i).size : Int) ≤ 140737488351232 then some (epochR a0 i, upR (restR a0 i) m, revR (restR a0 i) m, decide (0 ≤ i), decide (0 ≤ m)) else none
theorem depotref20_parted.mono : ∀ a0 k, LeO (depotref20_parted.f k a0) (depotref20_parted.f (k + 1) a0) := by
  intro a0 k r h
  unfold depotref20_parted.f at h ⊢
  obtain ⟨c, hc, h⟩ := Option.bind_eq_some_iff.mp h
  obtain ⟨m, hm, h⟩ := Option.bind_eq_some_iff.mp h
  rw [depotref20_first.mono _ _ k c hc, Option.bind_some, depotref20_last.mono _ _ k m hm]
  exact h
theorem depotref20_parted.calls (k : Nat) (a0 : ByteArray) (r1 : ByteArray) (r2 : ByteArray) (r3 : ByteArray) (r4 : Bool) (r5 : Bool) (w : World) (h : depotref20_parted.f k a0 = some (r1, r2, r3, r4, r5)) :
    Calls Tryd.prog 73 #[.string a0] w fun e w' => e = .returned (.agg #[.string r1, .string r2, .string r3, .bool r4, .bool r5]) ∧ Below w.heap.size w w' := by
  unfold depotref20_parted.f at h
  obtain ⟨i, hi, h⟩ := Option.bind_eq_some_iff.mp h
  obtain ⟨m, hm, h⟩ := Option.bind_eq_some_iff.mp h
  split at h
  case isFalse => cases h
  case isTrue hz =>
    have h := Option.some.inj h
    simp only [Prod.mk.injEq] at h
    obtain ⟨rfl, rfl, rfl, rfl, rfl⟩ := h
    exact depotref20_parted.walk k a0 i m w hi hm hz.1 hz.2.1 hz.2.2.1 hz.2.2.2
end Go.Proofs.YtmocooihkobdjaaDoor.Q
end
section
namespace Go.Proofs.YtmocooihkobdjaaDoor.Q
open Go.RowKit Go.Proofs.YtmocooihkobdjaaDoorW.PrintWords Go.Proofs.YtmocooihkobdjaaDoorW.PrintLast Go.Proofs.YtmocooihkobdjaaDoorW.PrintMore
attribute [local go_sem] max2_int min2_int max_two min_two max_three min_three max_four min_four
set_option linter.unusedVariables false
set_option linter.unusedSimpArgs false
def depotref20_digit.f (a0 : Int) : Option (Bool) := if a0 ≥ 48 then (some (decide (a0 ≤ 57))) else (some false)
set_option maxHeartbeats 8000000 in
set_option maxRecDepth 100000 in
theorem depotref20_digit.calls (a0 : Int) (r : Bool) (w : World) (h : depotref20_digit.f a0 = some r) :
  Calls Tryd.prog 74 #[.int .u8 a0] w fun e w' => e = .returned (.bool r) ∧ Drawn0 w w' := by
 have H : (if a0 ≥ 48 then (some (decide (a0 ≤ 57))) else (some false)) = some r := h
 clear h
 by_cases c2 : a0 ≥ 48
 ·rw [if_pos c2] at H
  have c2b0 : decide (48 ≤ a0) = true := decide_eq_true c2
  clear c2
  obtain rfl := Option.some.inj H
  go_enter Tryd.func74, Tryd.ntmps74
  go_wp2
  go_ret
  exact ⟨by first | rfl | (simp; done) | (simp [*]; done), by repeat (first | exact Drawn0.refl _ | apply Drawn0.step)⟩
 ·rw [if_neg c2] at H
  have c2b0 : decide (48 ≤ a0) = false := decide_eq_false c2
  clear c2
  obtain rfl := Option.some.inj H
  go_enter Tryd.func74, Tryd.ntmps74
  go_wp2
  go_ret
  exact ⟨by first | rfl | (simp; done) | (simp [*]; done), by repeat (first | exact Drawn0.refl _ | apply Drawn0.step)⟩
end Go.Proofs.YtmocooihkobdjaaDoor.Q
end
section
namespace Go.Proofs.YtmocooihkobdjaaDoor.Q
open Go.RowKit Go.Proofs.YtmocooihkobdjaaDoorW.PrintWords Go.Proofs.YtmocooihkobdjaaDoorW.PrintLast Go.Proofs.YtmocooihkobdjaaDoorW.PrintMore
attribute [local go_sem] max2_int min2_int max_two min_two max_three min_three max_four min_four
set_option linter.unusedVariables false
set_option linter.unusedSimpArgs false
def depotref20_letter.f (a0 : Int) : Option (Bool) := if a0 ≥ 97 then (if a0 ≤ 122 then (some true) else (if a0 ≥ 65 then (some (decide (a0 ≤ 90))) else (some false))) else (if a0 ≥ 65 then (some (decide (a0 ≤ 90))) else (some false))
set_option maxHeartbeats 8000000 in
set_option maxRecDepth 100000 in
theorem depotref20_letter.calls (a0 : Int) (r : Bool) (w : World) (h : depotref20_letter.f a0 = some r) :
  Calls Tryd.prog 75 #[.int .u8 a0] w fun e w' => e = .returned (.bool r) ∧ Drawn0 w w' := by
 have H : (if a0 ≥ 97 then (if a0 ≤ 122 then (some true) else (if a0 ≥ 65 then (some (decide (a0 ≤ 90))) else (some false))) else (if a0 ≥ 65 then (some (decide (a0 ≤ 90))) else (some false))) = some r := h
 clear h
 by_cases c2 : a0 ≥ 97
 ·rw [if_pos c2] at H
  have c2b0 : decide (97 ≤ a0) = true := decide_eq_true c2
  clear c2
  by_cases c3 : a0 ≤ 122
  ·rw [if_pos c3] at H
   have c3b0 : decide (a0 ≤ 122) = true := decide_eq_true c3
   clear c3
   obtain rfl := Option.some.inj H
   go_enter Tryd.func75, Tryd.ntmps75
   go_wp2
   go_ret
   exact ⟨by first | rfl | (simp; done) | (simp [*]; done), by repeat (first | exact Drawn0.refl _ | apply Drawn0.step)⟩
  ·rw [if_neg c3] at H
   have c3b0 : decide (a0 ≤ 122) = false := decide_eq_false c3
   clear c3
   by_cases c4 : a0 ≥ 65
   ·rw [if_pos c4] at H
    have c4b0 : decide (65 ≤ a0) = true := decide_eq_true c4
    clear c4
    obtain rfl := Option.some.inj H
    go_enter Tryd.func75, Tryd.ntmps75
    go_wp2
    go_ret
    exact ⟨by first | rfl | (simp; done) | (simp [*]; done), by repeat (first | exact Drawn0.refl _ | apply Drawn0.step)⟩
   ·rw [if_neg c4] at H
    have c4b0 : decide (65 ≤ a0) = false := decide_eq_false c4
    clear c4
    obtain rfl := Option.some.inj H
    go_enter Tryd.func75, Tryd.ntmps75
    go_wp2
    go_ret
    exact ⟨by first | rfl | (simp; done) | (simp [*]; done), by repeat (first | exact Drawn0.refl _ | apply Drawn0.step)⟩
 ·rw [if_neg c2] at H
  have c2b0 : decide (97 ≤ a0) = false := decide_eq_false c2
  clear c2
  by_cases c5 : a0 ≥ 65
  ·rw [if_pos c5] at H
   have c5b0 : decide (65 ≤ a0) = true := decide_eq_true c5
   clear c5
   obtain rfl := Option.some.inj H
   go_enter Tryd.func75, Tryd.ntmps75
   go_wp2
   go_ret
   exact ⟨by first | rfl | (simp; done) | (simp [*]; done), by repeat (first | exact Drawn0.refl _ | apply Drawn0.step)⟩
  ·rw [if_neg c5] at H
   have c5b0 : decide (65 ≤ a0) = false := decide_eq_false c5
   clear c5
   obtain rfl := Option.some.inj H
   go_enter Tryd.func75, Tryd.ntmps75
   go_wp2
   go_ret
   exact ⟨by first | rfl | (simp; done) | (simp [*]; done), by repeat (first | exact Drawn0.refl _ | apply Drawn0.step)⟩
end Go.Proofs.YtmocooihkobdjaaDoor.Q
end
section
namespace Go.Proofs.YtmocooihkobdjaaDoor.Q
open Go.RowKit Go.Proofs.YtmocooihkobdjaaDoorW.PrintWords Go.Proofs.YtmocooihkobdjaaDoorW.PrintLast Go.Proofs.YtmocooihkobdjaaDoorW.PrintMore
attribute [local go_sem] max2_int min2_int max_two min_two max_three min_three max_four min_four
set_option linter.unusedVariables false
set_option linter.unusedSimpArgs false
mutual
def depotref20_Legal.j0 : Nat → Bool → ByteArray → ByteArray → ByteArray → Bool → Bool → Option (Bool)
 | 0, _, _, _, _, _, _ => none
 | k + 1, x38, x182000, x182001, x182002, x182003, x182004 => if x38 = true then (some false) else (depotref20_Legal.l0 k 0 x182000 x182001 x182002 x182003 x182004)
def depotref20_Legal.l0 : Nat → Int → ByteArray → ByteArray → ByteArray → Bool → Bool → Option (Bool)
 | 0, _, _, _, _, _, _ => none
 | k + 1, x4, x182000, x182001, x182002, x182003, x182004 => if x4 < (x182000.size : Int) then (if 0 ≤ x4 then ((depotref20_digit.f (bt x182000 x4)).bind fun t186 => (if t186 = true then (depotref20_Legal.l0 k (wrap64 (x4 + 1)) x182000 x182001 x182002 x182003 x182004) else (some false))) else (none)) else (depotref20_Legal.l1 k 0 x182000 x182001 x182002 x182003 x182004)
def depotref20_Legal.l1 : Nat → Int → ByteArray → ByteArray → ByteArray → Bool → Bool → Option (Bool)
 | 0, _, _, _, _, _, _ => none
 | k + 1, x5, x182000, x182001, x182002, x182003, x182004 => if x5 < (x182001.size : Int) then (if 0 ≤ x5 then ((depotref20_letter.f (bt x182001 x5)).bind fun t187 => (if t187 = true then (depotref20_Legal.l1 k (wrap64 (x5 + 1)) x182000 x182001 x182002 x182003 x182004) else ((depotref20_digit.f (bt x182001 x5)).bind fun t188 => (if t188 = true then (depotref20_Legal.l1 k (wrap64 (x5 + 1)) x182000 x182001 x182002 x182003 x182004) else (if (bt x182001 x5) = 46 then (depotref20_Legal.l1 k (wrap64 (x5 + 1)) x182000 x182001 x182002 x182003 x182004) else (if (bt x182001 x5) = 43 then (depotref20_Legal.l1 k (wrap64 (x5 + 1)) x182000 x182001 x182002 x182003 x182004) else (if (bt x182001 x5) = 45 then (depotref20_Legal.l1 k (wrap64 (x5 + 1)) x182000 x182001 x182002 x182003 x182004) else (if (bt x182001 x5) = 126 then (depotref20_Legal.l1 k (wrap64 (x5 + 1)) x182000 x182001 x182002 x182003 x182004) else (if (bt x182001 x5) = 58 then (if x182003 = true then (depotref20_Legal.l1 k (wrap64 (x5 + 1)) x182000 x182001 x182002 x182003 x182004) else (some false)) else (some false)))))))))) else (none)) else (depotref20_Legal.l2 k 0 x182000 x182001 x182002 x182003 x182004)
def depotref20_Legal.l2 : Nat → Int → ByteArray → ByteArray → ByteArray → Bool → Bool → Option (Bool)
 | 0, _, _, _, _, _, _ => none
 | k + 1, x7, x182000, x182001, x182002, x182003, x182004 => if x7 < (x182002.size : Int) then (if 0 ≤ x7 then ((depotref20_letter.f (bt x182002 x7)).bind fun t189 => (if t189 = true then (depotref20_Legal.l2 k (wrap64 (x7 + 1)) x182000 x182001 x182002 x182003 x182004) else ((depotref20_digit.f (bt x182002 x7)).bind fun t190 => (if t190 = true then (depotref20_Legal.l2 k (wrap64 (x7 + 1)) x182000 x182001 x182002 x182003 x182004) else (if (bt x182002 x7) = 46 then (depotref20_Legal.l2 k (wrap64 (x7 + 1)) x182000 x182001 x182002 x182003 x182004) else (if (bt x182002 x7) = 43 then (depotref20_Legal.l2 k (wrap64 (x7 + 1)) x182000 x182001 x182002 x182003 x182004) else (if (bt x182002 x7) = 126 then (depotref20_Legal.l2 k (wrap64 (x7 + 1)) x182000 x182001 x182002 x182003 x182004) else (some false)))))))) else (none)) else (some true)
end
def depotref20_Legal.f (k : Nat) (a0 : ByteArray) : Option (Bool) := (depotref20_parted.f k a0).bind fun bt176 => (if bt176.2.2.2.1 = true then (if bt176.1.toList = ([] : List UInt8) then (depotref20_Legal.j0 k true bt176.1 bt176.2.1 bt176.2.2.1 bt176.2.2.2.1 bt176.2.2.2.2) else (if bt176.2.2.2.2 = true then (if bt176.2.2.1.toList = ([] : List UInt8) then (depotref20_Legal.j0 k true bt176.1 bt176.2.1 bt176.2.2.1 bt176.2.2.2.1 bt176.2.2.2.2) else (if bt176.2.1.toList = ([] : List UInt8) then (depotref20_Legal.j0 k true bt176.1 bt176.2.1 bt176.2.2.1 bt176.2.2.2.1 bt176.2.2.2.2) else (if 0 < (bt176.2.1.size : Int) then ((depotref20_digit.f (bt bt176.2.1 0)).bind fun t182 => (depotref20_Legal.j0 k (!t182) bt176.1 bt176.2.1 bt176.2.2.1 bt176.2.2.2.1 bt176.2.2.2.2)) else (none)))) else (if bt176.2.1.toList = ([] : List UInt8) then (depotref20_Legal.j0 k true bt176.1 bt176.2.1 bt176.2.2.1 bt176.2.2.2.1 bt176.2.2.2.2) else (if 0 < (bt176.2.1.size : Int) then ((depotref20_digit.f (bt bt176.2.1 0)).bind fun t183 => (depotref20_Legal.j0 k (!t183) bt176.1 bt176.2.1 bt176.2.2.1 bt176.2.2.2.1 bt176.2.2.2.2)) else (none))))) else (if bt176.2.2.2.2 = true then (if bt176.2.2.1.toList = ([] : List UInt8) then (depotref20_Legal.j0 k true bt176.1 bt176.2.1 bt176.2.2.1 bt176.2.2.2.1 bt176.2.2.2.2) else (if bt176.2.1.toList = ([] : List UInt8) then (depotref20_Legal.j0 k true bt176.1 bt176.2.1 bt176.2.2.1 bt176.2.2.2.1 bt176.2.2.2.2) else (if 0 < (bt176.2.1.size : Int) then ((depotref20_digit.f (bt bt176.2.1 0)).bind fun t184 => (depotref20_Legal.j0 k (!t184) bt176.1 bt176.2.1 bt176.2.2.1 bt176.2.2.2.1 bt176.2.2.2.2)) else (none)))) else (if bt176.2.1.toList = ([] : List UInt8) then (depotref20_Legal.j0 k true bt176.1 bt176.2.1 bt176.2.2.1 bt176.2.2.2.1 bt176.2.2.2.2) else (if 0 < (bt176.2.1.size : Int) then ((depotref20_digit.f (bt bt176.2.1 0)).bind fun t185 => (depotref20_Legal.j0 k (!t185) bt176.1 bt176.2.1 bt176.2.2.1 bt176.2.2.2.1 bt176.2.2.2.2)) else (none)))))
theorem depotref20_Legal.mono_l : ∀ k, (∀ y0 y1 y2 y3 y4 y5, LeO (depotref20_Legal.j0 k y0 y1 y2 y3 y4 y5) (depotref20_Legal.j0 (k + 1) y0 y1 y2 y3 y4 y5)) ∧ (∀ y0 y1 y2 y3 y4 y5, LeO (depotref20_Legal.l0 k y0 y1 y2 y3 y4 y5) (depotref20_Legal.l0 (k + 1) y0 y1 y2 y3 y4 y5)) ∧ (∀ y0 y1 y2 y3 y4 y5, LeO (depotref20_Legal.l1 k y0 y1 y2 y3 y4 y5) (depotref20_Legal.l1 (k + 1) y0 y1 y2 y3 y4 y5)) ∧ (∀ y0 y1 y2 y3 y4 y5, LeO (depotref20_Legal.l2 k y0 y1 y2 y3 y4 y5) (depotref20_Legal.l2 (k + 1) y0 y1 y2 y3 y4 y5))
 | 0 => ⟨fun _ _ _ _ _ _ r h => by simp [depotref20_Legal.j0] at h, fun _ _ _ _ _ _ r h => by simp [depotref20_Legal.l0] at h, fun _ _ _ _ _ _ r h => by simp [depotref20_Legal.l1] at h, fun _ _ _ _ _ _ r h => by simp [depotref20_Legal.l2] at h⟩
 | k + 1 => by
  obtain ⟨ih0, ih1, ih2, ih3⟩ := depotref20_Legal.mono_l k
  refine ⟨?_, ?_, ?_, ?_⟩
  ·intro y0 y1 y2 y3 y4 y5
   unfold depotref20_Legal.j0
   repeat' first
   | (with_reducible exact ih0 _ _ _ _ _ _)
   | (with_reducible exact ih1 _ _ _ _ _ _)
   | (with_reducible exact ih2 _ _ _ _ _ _)
   | (with_reducible exact ih3 _ _ _ _ _ _)
   | (with_reducible exact depotref20_parted.mono _ _)
   | (with_reducible exact LeO.refl _)
   | (with_reducible exact LeO.none _)
   | (with_reducible refine LeO.ite ?_ ?_)
   | (with_reducible refine LeO.bind ?_ (fun _ => ?_))
   | exact ih0 _ _ _ _ _ _
   | exact ih1 _ _ _ _ _ _
   | exact ih2 _ _ _ _ _ _
   | exact ih3 _ _ _ _ _ _
   | exact depotref20_parted.mono _ _
   | exact LeO.none _
   | refine LeO.ite ?_ ?_
   | refine LeO.bind ?_ (fun _ => ?_)
  ·intro y0 y1 y2 y3 y4 y5
   unfold depotref20_Legal.l0
   repeat' first
   | (with_reducible exact ih0 _ _ _ _ _ _)
   | (with_reducible exact ih1 _ _ _ _ _ _)
   | (with_reducible exact ih2 _ _ _ _ _ _)
   | (with_reducible exact ih3 _ _ _ _ _ _)
   | (with_reducible exact depotref20_parted.mono _ _)
   | (with_reducible exact LeO.refl _)
   | (with_reducible exact LeO.none _)
   | (with_reducible refine LeO.ite ?_ ?_)
   | (with_reducible refine LeO.bind ?_ (fun _ => ?_))
   | exact ih0 _ _ _ _ _ _
   | exact ih1 _ _ _ _ _ _
   | exact ih2 _ _ _ _ _ _
   | exact ih3 _ _ _ _ _ _
   | exact depotref20_parted.mono _ _
   | exact LeO.none _
   | refine LeO.ite ?_ ?_
   | refine LeO.bind ?_ (fun _ => ?_)
  ·intro y0 y1 y2 y3 y4 y5
   unfold depotref20_Legal.l1
   repeat' first
   | (with_reducible exact ih0 _ _ _ _ _ _)
   | (with_reducible exact ih1 _ _ _ _ _ _)
   | (with_reducible exact ih2 _ _ _ _ _ _)
   | (with_reducible exact ih3 _ _ _ _ _ _)
   | (with_reducible exact depotref20_parted.mono _ _)
   | (with_reducible exact LeO.refl _)
   | (with_reducible exact LeO.none _)
   | (with_reducible refine LeO.ite ?_ ?_)
   | (with_reducible refine LeO.bind ?_ (fun _ => ?_))
   | exact ih0 _ _ _ _ _ _
   | exact ih1 _ _ _ _ _ _
   | exact ih2 _ _ _ _ _ _
   | exact ih3 _ _ _ _ _ _
   | exact depotref20_parted.mono _ _
   | exact LeO.none _
   | refine LeO.ite ?_ ?_
   | refine LeO.bind ?_ (fun _ => ?_)
  ·intro y0 y1 y2 y3 y4 y5
   unfold depotref20_Legal.l2
   repeat' first
   | (with_reducible exact ih0 _ _ _ _ _ _)
   | (with_reducible exact ih1 _ _ _ _ _ _)
   | (with_reducible exact ih2 _ _ _ _ _ _)
   | (with_reducible exact ih3 _ _ _ _ _ _)
   | (with_reducible exact depotref20_parted.mono _ _)
   | (with_reducible exact LeO.refl _)
   | (with_reducible exact LeO.none _)
   | (with_reducible refine LeO.ite ?_ ?_)
   | (with_reducible refine LeO.bind ?_ (fun _ => ?_))
   | exact ih0 _ _ _ _ _ _
   | exact ih1 _ _ _ _ _ _
   | exact ih2 _ _ _ _ _ _
   | exact ih3 _ _ _ _ _ _
   | exact depotref20_parted.mono _ _
   | exact LeO.none _
   | refine LeO.ite ?_ ?_
   | refine LeO.bind ?_ (fun _ => ?_)
theorem depotref20_Legal.mono : ∀ a0 k, LeO (depotref20_Legal.f k a0) (depotref20_Legal.f (k + 1) a0) := by
 intro a0 k
 obtain ⟨ih0, ih1, ih2, ih3⟩ := depotref20_Legal.mono_l k
 unfold depotref20_Legal.f
 repeat' first
   | (with_reducible exact ih0 _ _ _ _ _ _)
   | (with_reducible exact ih1 _ _ _ _ _ _)
   | (with_reducible exact ih2 _ _ _ _ _ _)
   | (with_reducible exact ih3 _ _ _ _ _ _)
   | (with_reducible exact depotref20_parted.mono _ _)
   | (with_reducible exact LeO.refl _)
   | (with_reducible exact LeO.none _)
   | (with_reducible refine LeO.ite ?_ ?_)
   | (with_reducible refine LeO.bind ?_ (fun _ => ?_))
   | exact ih0 _ _ _ _ _ _
   | exact ih1 _ _ _ _ _ _
   | exact ih2 _ _ _ _ _ _
   | exact ih3 _ _ _ _ _ _
   | exact depotref20_parted.mono _ _
   | exact LeO.none _
   | refine LeO.ite ?_ ?_
   | refine LeO.bind ?_ (fun _ => ?_)
set_option maxHeartbeats 8000000 in
set_option maxRecDepth 100000 in
theorem depotref20_Legal.calls (k : Nat) (a0 : ByteArray) (r : Bool) (w : World) (h : depotref20_Legal.f k a0 = some r) :
  Calls Tryd.prog 53 #[.string a0] w fun e w' => e = .returned (.bool r) ∧ Below w.heap.size w w' := by
 have hu112 := Tryd.underlying112
 have HB := Aside0.mk (Below.refl w.heap.size w)
 have H : ((depotref20_parted.f k a0).bind fun bt176 => (if bt176.2.2.2.1 = true then (if bt176.1.toList = ([] : List UInt8) then (depotref20_Legal.j0 k true bt176.1 bt176.2.1 bt176.2.2.1 bt176.2.2.2.1 bt176.2.2.2.2) else (if bt176.2.2.2.2 = true then (if bt176.2.2.1.toList = ([] : List UInt8) then (depotref20_Legal.j0 k true bt176.1 bt176.2.1 bt176.2.2.1 bt176.2.2.2.1 bt176.2.2.2.2) else (if bt176.2.1.toList = ([] : List UInt8) then (depotref20_Legal.j0 k true bt176.1 bt176.2.1 bt176.2.2.1 bt176.2.2.2.1 bt176.2.2.2.2) else (if 0 < (bt176.2.1.size : Int) then ((depotref20_digit.f (bt bt176.2.1 0)).bind fun t182 => (depotref20_Legal.j0 k (!t182) bt176.1 bt176.2.1 bt176.2.2.1 bt176.2.2.2.1 bt176.2.2.2.2)) else (none)))) else (if bt176.2.1.toList = ([] : List UInt8) then (depotref20_Legal.j0 k true bt176.1 bt176.2.1 bt176.2.2.1 bt176.2.2.2.1 bt176.2.2.2.2) else (if 0 < (bt176.2.1.size : Int) then ((depotref20_digit.f (bt bt176.2.1 0)).bind fun t183 => (depotref20_Legal.j0 k (!t183) bt176.1 bt176.2.1 bt176.2.2.1 bt176.2.2.2.1 bt176.2.2.2.2)) else (none))))) else (if bt176.2.2.2.2 = true then (if bt176.2.2.1.toList = ([] : List UInt8) then (depotref20_Legal.j0 k true bt176.1 bt176.2.1 bt176.2.2.1 bt176.2.2.2.1 bt176.2.2.2.2) else (if bt176.2.1.toList = ([] : List UInt8) then (depotref20_Legal.j0 k true bt176.1 bt176.2.1 bt176.2.2.1 bt176.2.2.2.1 bt176.2.2.2.2) else (if 0 < (bt176.2.1.size : Int) then ((depotref20_digit.f (bt bt176.2.1 0)).bind fun t184 => (depotref20_Legal.j0 k (!t184) bt176.1 bt176.2.1 bt176.2.2.1 bt176.2.2.2.1 bt176.2.2.2.2)) else (none)))) else (if bt176.2.1.toList = ([] : List UInt8) then (depotref20_Legal.j0 k true bt176.1 bt176.2.1 bt176.2.2.1 bt176.2.2.2.1 bt176.2.2.2.2) else (if 0 < (bt176.2.1.size : Int) then ((depotref20_digit.f (bt bt176.2.1 0)).bind fun t185 => (depotref20_Legal.j0 k (!t185) bt176.1 bt176.2.1 bt176.2.2.1 bt176.2.2.2.1 bt176.2.2.2.2)) else (none)))))) = some r := h
 clear h
 replace H := Option.bind_eq_some_iff.mp H
 obtain ⟨⟨t176, t177, t178, t179, t180⟩, A20, H⟩ := H
 replace H : (if t179 = true then (if t176.toList = ([] : List UInt8) then (depotref20_Legal.j0 k true t176 t177 t178 t179 t180) else (if t180 = true then (if t178.toList = ([] : List UInt8) then (depotref20_Legal.j0 k true t176 t177 t178 t179 t180) else (if t177.toList = ([] : List UInt8) then (depotref20_Legal.j0 k true t176 t177 t178 t179 t180) else (if 0 < (t177.size : Int) then ((depotref20_digit.f (bt t177 0)).bind fun t182 => (depotref20_Legal.j0 k (!t182) t176 t177 t178 t179 t180)) else (none)))) else (if t177.toList = ([] : List UInt8) then (depotref20_Legal.j0 k true t176 t177 t178 t179 t180) else (if 0 < (t177.size : Int) then ((depotref20_digit.f (bt t177 0)).bind fun t183 => (depotref20_Legal.j0 k (!t183) t176 t177 t178 t179 t180)) else (none))))) else (if t180 = true then (if t178.toList = ([] : List UInt8) then (depotref20_Legal.j0 k true t176 t177 t178 t179 t180) else (if t177.toList = ([] : List UInt8) then (depotref20_Legal.j0 k true t176 t177 t178 t179 t180) else (if 0 < (t177.size : Int) then ((depotref20_digit.f (bt t177 0)).bind fun t184 => (depotref20_Legal.j0 k (!t184) t176 t177 t178 t179 t180)) else (none)))) else (if t177.toList = ([] : List UInt8) then (depotref20_Legal.j0 k true t176 t177 t178 t179 t180) else (if 0 < (t177.size : Int) then ((depotref20_digit.f (bt t177 0)).bind fun t185 => (depotref20_Legal.j0 k (!t185) t176 t177 t178 t179 t180)) else (none))))) = some r := H
 have A2 := Aside0.mk A20
 clear A20
 have HC3 := Aside0.mk H
 clear H
 go_enter Tryd.func53, Tryd.ntmps53
 go_upto_region 2 with (first | ((with_reducible refine gate_callee (f := 73) rfl ?_); refine goesL_ (some 10) rfl rfl Tryd.func73 (by kernel_rfl) rfl #[.string a0] rfl (by (try simp only [List.map_toArray, List.map_cons, List.map_nil]); first | done | rfl | (simp only [List.length_drop, List.length_take]; rfl) | (simp; done)) ?_; (with_reducible refine (depotref20_parted.calls k a0 t176 t177 t178 t179 t180 _ A2.out).mono ?_); rintro e w4 ⟨rfl, hb⟩; refine ⟨_, rfl, ?_⟩; have n0_ := Aside0.mk (below_step (W0 HB.out) hb); clear HB; have HB := n0_; clear n0_; (try clear hb); (try clear hb2); (try clear hk); (try clear hi)) | ((with_reducible refine gate_dst (N := 3) rfl ?_); refine box_event ?hg (N := 3) ?hd (cs := #[.string (⟨#[]⟩ : ByteArray), .string (⟨#[]⟩ : ByteArray), .string (⟨#[]⟩ : ByteArray), .bool false, .bool false]) (t := 112) ?hr ?_; (case hd => rfl); (case hg => rfl); (case hr => first | (go_simp; done) | (go_simp; rfl)); intro gb181 hg w5 hbox hb; have n0_ := Aside0.mk (below_step (W0 HB.out) hb); have n1_ := Aside0.mk (hbox); have n2_ := Aside0.mk ((by rw [hg]; exact (below_size (W0 HB.out)) : w.heap.size ≤ gb181)); have n3_ := Aside0.mk ((by rw [hg]; exact (below_size (W0 HB.out)) : w.heap.size ≤ gb181)); clear HB; have HB := n0_; have BK181 := n1_; have GW181 := n2_; have GE181 := n3_; clear n0_ n1_ n2_ n3_; clear hb hbox hg; have hcz6_0 : w5.cell? ⟨gb181, 0, none⟩ = some (.string (⟨#[]⟩ : ByteArray)) := (blk_cell BK181.out 0).trans rfl; have hcz6_1 : w5.cell? ⟨gb181, 1, none⟩ = some (.string (⟨#[]⟩ : ByteArray)) := (blk_cell BK181.out 1).trans rfl; have hcz6_2 : w5.cell? ⟨gb181, 2, none⟩ = some (.string (⟨#[]⟩ : ByteArray)) := (blk_cell BK181.out 2).trans rfl; have hcz6_3 : w5.cell? ⟨gb181, 3, none⟩ = some (.bool false) := (blk_cell BK181.out 3).trans rfl; have hcz6_4 : w5.cell? ⟨gb181, 4, none⟩ = some (.bool false) := (blk_cell BK181.out 4).trans rfl; have hfz6_0 := blk_frozen BK181.out 0; have hfz6_1 := blk_frozen BK181.out 1; have hfz6_2 := blk_frozen BK181.out 2; have hfz6_3 := blk_frozen BK181.out 3; have hfz6_4 := blk_frozen BK181.out 4))
 (try simp only [Act.put, List.setIfInBounds_toArray, List.set_cons_zero, List.set_cons_succ])
 go_cut [38] (fun v38 wc => ∃ (kq : Nat) (x38_2 : Bool), v38 = .bool x38_2 ∧ Aside0 (depotref20_Legal.j0 kq x38_2 t176 t177 t178 t179 t180 = some r) ∧ Aside0 (kq ≤ k) ∧ Aside0 (wc.heap[gb181]? = some (.cells #[.string t176, .string t177, .string t178, .bool t179, .bool t180] 112 (0, 0))) ∧ Aside0 (Below w.heap.size w wc))
 case first =>
  have H := HC3.out
  clear HC3
  by_cases c7 : t179 = true
  ·subst c7
   have H1 : (if t176.toList = ([] : List UInt8) then (depotref20_Legal.j0 k true t176 t177 t178 true t180) else (if t180 = true then (if t178.toList = ([] : List UInt8) then (depotref20_Legal.j0 k true t176 t177 t178 true t180) else (if t177.toList = ([] : List UInt8) then (depotref20_Legal.j0 k true t176 t177 t178 true t180) else (if 0 < (t177.size : Int) then ((depotref20_digit.f (bt t177 0)).bind fun t182 => (depotref20_Legal.j0 k (!t182) t176 t177 t178 true t180)) else (none)))) else (if t177.toList = ([] : List UInt8) then (depotref20_Legal.j0 k true t176 t177 t178 true t180) else (if 0 < (t177.size : Int) then ((depotref20_digit.f (bt t177 0)).bind fun t183 => (depotref20_Legal.j0 k (!t183) t176 t177 t178 true t180)) else (none))))) = some r := by rw [if_pos rfl] at H; exact H
   clear H
   have H := H1
   clear H1
   by_cases c8 : t176.toList = ([] : List UInt8)
   ·rw [if_pos c8] at H
    have c8b0 : (t176.toList == ([] : List UInt8)) = true := beq_iff_eq.mpr c8
    have c8b1 : (t176.toList != ([] : List UInt8)) = false := bne_eq_false_iff_eq.mpr c8
    clear c8
    (first | rw [c8b0] | (simp only [i64_w, i32_w]; rw [c8b0]) | rw [show t176.toList.isEmpty = true by simpa using c8b0] | skip)
    have H' := Aside0.mk H
    clear H
    have hcz9_0 : w5.cell? ⟨gb181, 0, none⟩ = some (.string (⟨#[]⟩ : ByteArray)) := (blk_cell BK181.out 0).trans rfl
    have hcz9_1 : w5.cell? ⟨gb181, 1, none⟩ = some (.string (⟨#[]⟩ : ByteArray)) := (blk_cell BK181.out 1).trans rfl
    have hcz9_2 : w5.cell? ⟨gb181, 2, none⟩ = some (.string (⟨#[]⟩ : ByteArray)) := (blk_cell BK181.out 2).trans rfl
    have hcz9_3 : w5.cell? ⟨gb181, 3, none⟩ = some (.bool false) := (blk_cell BK181.out 3).trans rfl
    have hcz9_4 : w5.cell? ⟨gb181, 4, none⟩ = some (.bool false) := (blk_cell BK181.out 4).trans rfl
    have hfz9_0 := blk_frozen BK181.out 0
    have hfz9_1 := blk_frozen BK181.out 1
    have hfz9_2 := blk_frozen BK181.out 2
    have hfz9_3 := blk_frozen BK181.out 3
    have hfz9_4 := blk_frozen BK181.out 4
    go_wp2
    go_meet
    case rel => exact ⟨_, (true), (by first | rfl | (simp; done) | (simp [*]; done)), H', ⟨by first | omega | exact Nat.le_refl _⟩, ⟨by (with_reducible repeat (first | refine blk_drewN ?_ _ | refine blk_drew ?_ | refine blk_alloc ?_ _)); refine blk_put (cs := #[.string t176, .string t177, .string t178, .bool true, .bool false]) ?_ 4 _ rfl; (with_reducible repeat (first | refine blk_drewN ?_ _ | refine blk_drew ?_ | refine blk_alloc ?_ _)); refine blk_put (cs := #[.string t176, .string t177, .string t178, .bool false, .bool false]) ?_ 3 _ rfl; (with_reducible repeat (first | refine blk_drewN ?_ _ | refine blk_drew ?_ | refine blk_alloc ?_ _)); refine blk_put (cs := #[.string t176, .string t177, .string (⟨#[]⟩ : ByteArray), .bool false, .bool false]) ?_ 2 _ rfl; (with_reducible repeat (first | refine blk_drewN ?_ _ | refine blk_drew ?_ | refine blk_alloc ?_ _)); refine blk_put (cs := #[.string t176, .string (⟨#[]⟩ : ByteArray), .string (⟨#[]⟩ : ByteArray), .bool false, .bool false]) ?_ 1 _ rfl; (with_reducible repeat (first | refine blk_drewN ?_ _ | refine blk_drew ?_ | refine blk_alloc ?_ _)); refine blk_put (cs := #[.string (⟨#[]⟩ : ByteArray), .string (⟨#[]⟩ : ByteArray), .string (⟨#[]⟩ : ByteArray), .bool false, .bool false]) ?_ 0 _ rfl; (with_reducible repeat (first | refine blk_drewN ?_ _ | refine blk_drew ?_ | refine blk_alloc ?_ _)); exact BK181.out⟩, ⟨by repeat (first | (with_reducible first | exact HB.out | apply below_alloc | apply pw_below_drewN | apply below_drew1 | refine below_set ?_ GE181.out) | exact HB.out)⟩⟩
   ·rw [if_neg c8] at H
    have c8b0 : (t176.toList == ([] : List UInt8)) = false := beq_eq_false_iff_ne.mpr c8
    have c8b1 : (t176.toList != ([] : List UInt8)) = true := bne_iff_ne.mpr c8
    (first | rw [c8b0] | (simp only [i64_w, i32_w]; rw [c8b0]) | rw [show t176.toList.isEmpty = false by simpa using c8b0] | skip)
    by_cases c10 : t180 = true
    ·subst c10
     have H1 : (if t178.toList = ([] : List UInt8) then (depotref20_Legal.j0 k true t176 t177 t178 true true) else (if t177.toList = ([] : List UInt8) then (depotref20_Legal.j0 k true t176 t177 t178 true true) else (if 0 < (t177.size : Int) then ((depotref20_digit.f (bt t177 0)).bind fun t182 => (depotref20_Legal.j0 k (!t182) t176 t177 t178 true true)) else (none)))) = some r := by rw [if_pos rfl] at H; exact H
     clear H
     have H := H1
     clear H1
     by_cases c11 : t178.toList = ([] : List UInt8)
     ·rw [if_pos c11] at H
      have c11b0 : (t178.toList == ([] : List UInt8)) = true := beq_iff_eq.mpr c11
      have c11b1 : (t178.toList != ([] : List UInt8)) = false := bne_eq_false_iff_eq.mpr c11
      clear c11
      have H' := Aside0.mk H
      clear H
      have hcz12_0 : w5.cell? ⟨gb181, 0, none⟩ = some (.string (⟨#[]⟩ : ByteArray)) := (blk_cell BK181.out 0).trans rfl
      have hcz12_1 : w5.cell? ⟨gb181, 1, none⟩ = some (.string (⟨#[]⟩ : ByteArray)) := (blk_cell BK181.out 1).trans rfl
      have hcz12_2 : w5.cell? ⟨gb181, 2, none⟩ = some (.string (⟨#[]⟩ : ByteArray)) := (blk_cell BK181.out 2).trans rfl
      have hcz12_3 : w5.cell? ⟨gb181, 3, none⟩ = some (.bool false) := (blk_cell BK181.out 3).trans rfl
      have hcz12_4 : w5.cell? ⟨gb181, 4, none⟩ = some (.bool false) := (blk_cell BK181.out 4).trans rfl
      have hfz12_0 := blk_frozen BK181.out 0
      have hfz12_1 := blk_frozen BK181.out 1
      have hfz12_2 := blk_frozen BK181.out 2
      have hfz12_3 := blk_frozen BK181.out 3
      have hfz12_4 := blk_frozen BK181.out 4
      go_wp2
      go_meet
      case rel => exact ⟨_, (true), (by first | rfl | (simp; done) | (simp [*]; done)), H', ⟨by first | omega | exact Nat.le_refl _⟩, ⟨by (with_reducible repeat (first | refine blk_drewN ?_ _ | refine blk_drew ?_ | refine blk_alloc ?_ _)); refine blk_put (cs := #[.string t176, .string t177, .string t178, .bool true, .bool false]) ?_ 4 _ rfl; (with_reducible repeat (first | refine blk_drewN ?_ _ | refine blk_drew ?_ | refine blk_alloc ?_ _)); refine blk_put (cs := #[.string t176, .string t177, .string t178, .bool false, .bool false]) ?_ 3 _ rfl; (with_reducible repeat (first | refine blk_drewN ?_ _ | refine blk_drew ?_ | refine blk_alloc ?_ _)); refine blk_put (cs := #[.string t176, .string t177, .string (⟨#[]⟩ : ByteArray), .bool false, .bool false]) ?_ 2 _ rfl; (with_reducible repeat (first | refine blk_drewN ?_ _ | refine blk_drew ?_ | refine blk_alloc ?_ _)); refine blk_put (cs := #[.string t176, .string (⟨#[]⟩ : ByteArray), .string (⟨#[]⟩ : ByteArray), .bool false, .bool false]) ?_ 1 _ rfl; (with_reducible repeat (first | refine blk_drewN ?_ _ | refine blk_drew ?_ | refine blk_alloc ?_ _)); refine blk_put (cs := #[.string (⟨#[]⟩ : ByteArray), .string (⟨#[]⟩ : ByteArray), .string (⟨#[]⟩ : ByteArray), .bool false, .bool false]) ?_ 0 _ rfl; (with_reducible repeat (first | refine blk_drewN ?_ _ | refine blk_drew ?_ | refine blk_alloc ?_ _)); exact BK181.out⟩, ⟨by repeat (first | (with_reducible first | exact HB.out | apply below_alloc | apply pw_below_drewN | apply below_drew1 | refine below_set ?_ GE181.out) | exact HB.out)⟩⟩
     ·rw [if_neg c11] at H
      have c11b0 : (t178.toList == ([] : List UInt8)) = false := beq_eq_false_iff_ne.mpr c11
      have c11b1 : (t178.toList != ([] : List UInt8)) = true := bne_iff_ne.mpr c11
      by_cases c13 : t177.toList = ([] : List UInt8)
      ·rw [if_pos c13] at H
       have c13b0 : (t177.toList == ([] : List UInt8)) = true := beq_iff_eq.mpr c13
       have c13b1 : (t177.toList != ([] : List UInt8)) = false := bne_eq_false_iff_eq.mpr c13
       clear c13
       have H' := Aside0.mk H
       clear H
       have hcz14_0 : w5.cell? ⟨gb181, 0, none⟩ = some (.string (⟨#[]⟩ : ByteArray)) := (blk_cell BK181.out 0).trans rfl
       have hcz14_1 : w5.cell? ⟨gb181, 1, none⟩ = some (.string (⟨#[]⟩ : ByteArray)) := (blk_cell BK181.out 1).trans rfl
       have hcz14_2 : w5.cell? ⟨gb181, 2, none⟩ = some (.string (⟨#[]⟩ : ByteArray)) := (blk_cell BK181.out 2).trans rfl
       have hcz14_3 : w5.cell? ⟨gb181, 3, none⟩ = some (.bool false) := (blk_cell BK181.out 3).trans rfl
       have hcz14_4 : w5.cell? ⟨gb181, 4, none⟩ = some (.bool false) := (blk_cell BK181.out 4).trans rfl
       have hfz14_0 := blk_frozen BK181.out 0
       have hfz14_1 := blk_frozen BK181.out 1
       have hfz14_2 := blk_frozen BK181.out 2
       have hfz14_3 := blk_frozen BK181.out 3
       have hfz14_4 := blk_frozen BK181.out 4
       go_wp2
       go_meet
       case rel => exact ⟨_, (true), (by first | rfl | (simp; done) | (simp [*]; done)), H', ⟨by first | omega | exact Nat.le_refl _⟩, ⟨by (with_reducible repeat (first | refine blk_drewN ?_ _ | refine blk_drew ?_ | refine blk_alloc ?_ _)); refine blk_put (cs := #[.string t176, .string t177, .string t178, .bool true, .bool false]) ?_ 4 _ rfl; (with_reducible repeat (first | refine blk_drewN ?_ _ | refine blk_drew ?_ | refine blk_alloc ?_ _)); refine blk_put (cs := #[.string t176, .string t177, .string t178, .bool false, .bool false]) ?_ 3 _ rfl; (with_reducible repeat (first | refine blk_drewN ?_ _ | refine blk_drew ?_ | refine blk_alloc ?_ _)); refine blk_put (cs := #[.string t176, .string t177, .string (⟨#[]⟩ : ByteArray), .bool false, .bool false]) ?_ 2 _ rfl; (with_reducible repeat (first | refine blk_drewN ?_ _ | refine blk_drew ?_ | refine blk_alloc ?_ _)); refine blk_put (cs := #[.string t176, .string (⟨#[]⟩ : ByteArray), .string (⟨#[]⟩ : ByteArray), .bool false, .bool false]) ?_ 1 _ rfl; (with_reducible repeat (first | refine blk_drewN ?_ _ | refine blk_drew ?_ | refine blk_alloc ?_ _)); refine blk_put (cs := #[.string (⟨#[]⟩ : ByteArray), .string (⟨#[]⟩ : ByteArray), .string (⟨#[]⟩ : ByteArray), .bool false, .bool false]) ?_ 0 _ rfl; (with_reducible repeat (first | refine blk_drewN ?_ _ | refine blk_drew ?_ | refine blk_alloc ?_ _)); exact BK181.out⟩, ⟨by repeat (first | (with_reducible first | exact HB.out | apply below_alloc | apply pw_below_drewN | apply below_drew1 | refine below_set ?_ GE181.out) | exact HB.out)⟩⟩
      ·rw [if_neg c13] at H
       have c13b0 : (t177.toList == ([] : List UInt8)) = false := beq_eq_false_iff_ne.mpr c13
       have c13b1 : (t177.toList != ([] : List UInt8)) = true := bne_iff_ne.mpr c13
       by_cases c15 : 0 < (t177.size : Int)
       ·rw [if_pos c15] at H
        have c15b0 : decide (0 < (t177.size : Int)) = true := decide_eq_true c15
        have c15b1 : decide (0 < t177.size) = true := decide_eq_true (by omega)
        clear c15
        replace H := Option.bind_eq_some_iff.mp H
        obtain ⟨t182, A170, H⟩ := H
        replace H : (depotref20_Legal.j0 k (!t182) t176 t177 t178 true true) = some r := H
        have A17 := Aside0.mk A170
        clear A170
        have H' := Aside0.mk H
        clear H
        have hcz18_0 : w5.cell? ⟨gb181, 0, none⟩ = some (.string (⟨#[]⟩ : ByteArray)) := (blk_cell BK181.out 0).trans rfl
        have hcz18_1 : w5.cell? ⟨gb181, 1, none⟩ = some (.string (⟨#[]⟩ : ByteArray)) := (blk_cell BK181.out 1).trans rfl
        have hcz18_2 : w5.cell? ⟨gb181, 2, none⟩ = some (.string (⟨#[]⟩ : ByteArray)) := (blk_cell BK181.out 2).trans rfl
        have hcz18_3 : w5.cell? ⟨gb181, 3, none⟩ = some (.bool false) := (blk_cell BK181.out 3).trans rfl
        have hcz18_4 : w5.cell? ⟨gb181, 4, none⟩ = some (.bool false) := (blk_cell BK181.out 4).trans rfl
        have hfz18_0 := blk_frozen BK181.out 0
        have hfz18_1 := blk_frozen BK181.out 1
        have hfz18_2 := blk_frozen BK181.out 2
        have hfz18_3 := blk_frozen BK181.out 3
        have hfz18_4 := blk_frozen BK181.out 4
        have p16 : 0 ≤ (0 : Int) := (by omega)
        have q16 : 0 < t177.size := (by have : (0 : Int) < (t177.size : Int) := of_decide_eq_true (by first | (with_reducible assumption) | assumption); omega)
        have hx16 : ∀ h : 0 < t177.size, ((t177[0]'h).toNat : Int) = bt t177 0 := bt_at t177 0
        clear p16
        have qi16 : (0 < (t177.size : Int)) = True := eq_true (of_decide_eq_true (by first | (with_reducible assumption) | assumption))
        replace q16 := eq_true q16
        go_wp2_with (first | (go_at_call 74; (with_reducible refine (depotref20_digit.calls (bt t177 0) t182 _ A17.out).mono ?_); rintro e w' ⟨rfl, ⟨nd, rfl⟩⟩))
        go_meet
        case rel => exact ⟨_, (!t182), (by first | rfl | (simp; done) | (simp [*]; done)), H', ⟨by first | omega | exact Nat.le_refl _⟩, ⟨by (with_reducible repeat (first | refine blk_drewN ?_ _ | refine blk_drew ?_ | refine blk_alloc ?_ _)); refine blk_put (cs := #[.string t176, .string t177, .string t178, .bool true, .bool false]) ?_ 4 _ rfl; (with_reducible repeat (first | refine blk_drewN ?_ _ | refine blk_drew ?_ | refine blk_alloc ?_ _)); refine blk_put (cs := #[.string t176, .string t177, .string t178, .bool false, .bool false]) ?_ 3 _ rfl; (with_reducible repeat (first | refine blk_drewN ?_ _ | refine blk_drew ?_ | refine blk_alloc ?_ _)); refine blk_put (cs := #[.string t176, .string t177, .string (⟨#[]⟩ : ByteArray), .bool false, .bool false]) ?_ 2 _ rfl; (with_reducible repeat (first | refine blk_drewN ?_ _ | refine blk_drew ?_ | refine blk_alloc ?_ _)); refine blk_put (cs := #[.string t176, .string (⟨#[]⟩ : ByteArray), .string (⟨#[]⟩ : ByteArray), .bool false, .bool false]) ?_ 1 _ rfl; (with_reducible repeat (first | refine blk_drewN ?_ _ | refine blk_drew ?_ | refine blk_alloc ?_ _)); refine blk_put (cs := #[.string (⟨#[]⟩ : ByteArray), .string (⟨#[]⟩ : ByteArray), .string (⟨#[]⟩ : ByteArray), .bool false, .bool false]) ?_ 0 _ rfl; (with_reducible repeat (first | refine blk_drewN ?_ _ | refine blk_drew ?_ | refine blk_alloc ?_ _)); exact BK181.out⟩, ⟨by repeat (first | (with_reducible first | exact HB.out | apply below_alloc | apply pw_below_drewN | apply below_drew1 | refine below_set ?_ GE181.out) | exact HB.out)⟩⟩
       ·rw [if_neg c15] at H
        exact absurd H (by simp)
    ·replace c10 := Bool.eq_false_iff.mpr c10
     subst c10
     have H1 : (if t177.toList = ([] : List UInt8) then (depotref20_Legal.j0 k true t176 t177 t178 true false) else (if 0 < (t177.size : Int) then ((depotref20_digit.f (bt t177 0)).bind fun t183 => (depotref20_Legal.j0 k (!t183) t176 t177 t178 true false)) else (none))) = some r := by rw [if_neg (show ¬ (false = true) by decide)] at H; exact H
     clear H
     have H := H1
     clear H1
     by_cases c19 : t177.toList = ([] : List UInt8)
     ·rw [if_pos c19] at H
      have c19b0 : (t177.toList == ([] : List UInt8)) = true := beq_iff_eq.mpr c19
      have c19b1 : (t177.toList != ([] : List UInt8)) = false := bne_eq_false_iff_eq.mpr c19
      clear c19
      have H' := Aside0.mk H
      clear H
      have hcz20_0 : w5.cell? ⟨gb181, 0, none⟩ = some (.string (⟨#[]⟩ : ByteArray)) := (blk_cell BK181.out 0).trans rfl
      have hcz20_1 : w5.cell? ⟨gb181, 1, none⟩ = some (.string (⟨#[]⟩ : ByteArray)) := (blk_cell BK181.out 1).trans rfl
      have hcz20_2 : w5.cell? ⟨gb181, 2, none⟩ = some (.string (⟨#[]⟩ : ByteArray)) := (blk_cell BK181.out 2).trans rfl
      have hcz20_3 : w5.cell? ⟨gb181, 3, none⟩ = some (.bool false) := (blk_cell BK181.out 3).trans rfl
      have hcz20_4 : w5.cell? ⟨gb181, 4, none⟩ = some (.bool false) := (blk_cell BK181.out 4).trans rfl
      have hfz20_0 := blk_frozen BK181.out 0
      have hfz20_1 := blk_frozen BK181.out 1
      have hfz20_2 := blk_frozen BK181.out 2
      have hfz20_3 := blk_frozen BK181.out 3
      have hfz20_4 := blk_frozen BK181.out 4
      go_wp2
      go_meet
      case rel => exact ⟨_, (true), (by first | rfl | (simp; done) | (simp [*]; done)), H', ⟨by first | omega | exact Nat.le_refl _⟩, ⟨by (with_reducible repeat (first | refine blk_drewN ?_ _ | refine blk_drew ?_ | refine blk_alloc ?_ _)); refine blk_put (cs := #[.string t176, .string t177, .string t178, .bool true, .bool false]) ?_ 4 _ rfl; (with_reducible repeat (first | refine blk_drewN ?_ _ | refine blk_drew ?_ | refine blk_alloc ?_ _)); refine blk_put (cs := #[.string t176, .string t177, .string t178, .bool false, .bool false]) ?_ 3 _ rfl; (with_reducible repeat (first | refine blk_drewN ?_ _ | refine blk_drew ?_ | refine blk_alloc ?_ _)); refine blk_put (cs := #[.string t176, .string t177, .string (⟨#[]⟩ : ByteArray), .bool false, .bool false]) ?_ 2 _ rfl; (with_reducible repeat (first | refine blk_drewN ?_ _ | refine blk_drew ?_ | refine blk_alloc ?_ _)); refine blk_put (cs := #[.string t176, .string (⟨#[]⟩ : ByteArray), .string (⟨#[]⟩ : ByteArray), .bool false, .bool false]) ?_ 1 _ rfl; (with_reducible repeat (first | refine blk_drewN ?_ _ | refine blk_drew ?_ | refine blk_alloc ?_ _)); refine blk_put (cs := #[.string (⟨#[]⟩ : ByteArray), .string (⟨#[]⟩ : ByteArray), .string (⟨#[]⟩ : ByteArray), .bool false, .bool false]) ?_ 0 _ rfl; (with_reducible repeat (first | refine blk_drewN ?_ _ | refine blk_drew ?_ | refine blk_alloc ?_ _)); exact BK181.out⟩, ⟨by repeat (first | (with_reducible first | exact HB.out | apply below_alloc | apply pw_below_drewN | apply below_drew1 | refine below_set ?_ GE181.out) | exact HB.out)⟩⟩
     ·rw [if_neg c19] at H
      have c19b0 : (t177.toList == ([] : List UInt8)) = false := beq_eq_false_iff_ne.mpr c19
      have c19b1 : (t177.toList != ([] : List UInt8)) = true := bne_iff_ne.mpr c19
      by_cases c21 : 0 < (t177.size : Int)
      ·rw [if_pos c21] at H
       have c21b0 : decide (0 < (t177.size : Int)) = true := decide_eq_true c21
       have c21b1 : decide (0 < t177.size) = true := decide_eq_true (by omega)
       clear c21
       replace H := Option.bind_eq_some_iff.mp H
       obtain ⟨t183, A230, H⟩ := H
       replace H : (depotref20_Legal.j0 k (!t183) t176 t177 t178 true false) = some r := H
       have A23 := Aside0.mk A230
       clear A230
       have H' := Aside0.mk H
       clear H
       have hcz24_0 : w5.cell? ⟨gb181, 0, none⟩ = some (.string (⟨#[]⟩ : ByteArray)) := (blk_cell BK181.out 0).trans rfl
       have hcz24_1 : w5.cell? ⟨gb181, 1, none⟩ = some (.string (⟨#[]⟩ : ByteArray)) := (blk_cell BK181.out 1).trans rfl
       have hcz24_2 : w5.cell? ⟨gb181, 2, none⟩ = some (.string (⟨#[]⟩ : ByteArray)) := (blk_cell BK181.out 2).trans rfl
       have hcz24_3 : w5.cell? ⟨gb181, 3, none⟩ = some (.bool false) := (blk_cell BK181.out 3).trans rfl
       have hcz24_4 : w5.cell? ⟨gb181, 4, none⟩ = some (.bool false) := (blk_cell BK181.out 4).trans rfl
       have hfz24_0 := blk_frozen BK181.out 0
       have hfz24_1 := blk_frozen BK181.out 1
       have hfz24_2 := blk_frozen BK181.out 2
       have hfz24_3 := blk_frozen BK181.out 3
       have hfz24_4 := blk_frozen BK181.out 4
       have p22 : 0 ≤ (0 : Int) := (by omega)
       have q22 : 0 < t177.size := (by have : (0 : Int) < (t177.size : Int) := of_decide_eq_true (by first | (with_reducible assumption) | assumption); omega)
       have hx22 : ∀ h : 0 < t177.size, ((t177[0]'h).toNat : Int) = bt t177 0 := bt_at t177 0
       clear p22
       have qi22 : (0 < (t177.size : Int)) = True := eq_true (of_decide_eq_true (by first | (with_reducible assumption) | assumption))
       replace q22 := eq_true q22
       go_wp2_with (first | (go_at_call 74; (with_reducible refine (depotref20_digit.calls (bt t177 0) t183 _ A23.out).mono ?_); rintro e w' ⟨rfl, ⟨nd, rfl⟩⟩))
       go_meet
       case rel => exact ⟨_, (!t183), (by first | rfl | (simp; done) | (simp [*]; done)), H', ⟨by first | omega | exact Nat.le_refl _⟩, ⟨by (with_reducible repeat (first | refine blk_drewN ?_ _ | refine blk_drew ?_ | refine blk_alloc ?_ _)); refine blk_put (cs := #[.string t176, .string t177, .string t178, .bool true, .bool false]) ?_ 4 _ rfl; (with_reducible repeat (first | refine blk_drewN ?_ _ | refine blk_drew ?_ | refine blk_alloc ?_ _)); refine blk_put (cs := #[.string t176, .string t177, .string t178, .bool false, .bool false]) ?_ 3 _ rfl; (with_reducible repeat (first | refine blk_drewN ?_ _ | refine blk_drew ?_ | refine blk_alloc ?_ _)); refine blk_put (cs := #[.string t176, .string t177, .string (⟨#[]⟩ : ByteArray), .bool false, .bool false]) ?_ 2 _ rfl; (with_reducible repeat (first | refine blk_drewN ?_ _ | refine blk_drew ?_ | refine blk_alloc ?_ _)); refine blk_put (cs := #[.string t176, .string (⟨#[]⟩ : ByteArray), .string (⟨#[]⟩ : ByteArray), .bool false, .bool false]) ?_ 1 _ rfl; (with_reducible repeat (first | refine blk_drewN ?_ _ | refine blk_drew ?_ | refine blk_alloc ?_ _)); refine blk_put (cs := #[.string (⟨#[]⟩ : ByteArray), .string (⟨#[]⟩ : ByteArray), .string (⟨#[]⟩ : ByteArray), .bool false, .bool false]) ?_ 0 _ rfl; (with_reducible repeat (first | refine blk_drewN ?_ _ | refine blk_drew ?_ | refine blk_alloc ?_ _)); exact BK181.out⟩, ⟨by repeat (first | (with_reducible first | exact HB.out | apply below_alloc | apply pw_below_drewN | apply below_drew1 | refine below_set ?_ GE181.out) | exact HB.out)⟩⟩
      ·rw [if_neg c21] at H
       exact absurd H (by simp)
  ·replace c7 := Bool.eq_false_iff.mpr c7
   subst c7
   have H1 : (if t180 = true then (if t178.toList = ([] : List UInt8) then (depotref20_Legal.j0 k true t176 t177 t178 false t180) else (if t177.toList = ([] : List UInt8) then (depotref20_Legal.j0 k true t176 t177 t178 false t180) else (if 0 < (t177.size : Int) then ((depotref20_digit.f (bt t177 0)).bind fun t184 => (depotref20_Legal.j0 k (!t184) t176 t177 t178 false t180)) else (none)))) else (if t177.toList = ([] : List UInt8) then (depotref20_Legal.j0 k true t176 t177 t178 false t180) else (if 0 < (t177.size : Int) then ((depotref20_digit.f (bt t177 0)).bind fun t185 => (depotref20_Legal.j0 k (!t185) t176 t177 t178 false t180)) else (none)))) = some r := by rw [if_neg (show ¬ (false = true) by decide)] at H; exact H
   clear H
   have H := H1
   clear H1
   by_cases c25 : t180 = true
   ·subst c25
    have H1 : (if t178.toList = ([] : List UInt8) then (depotref20_Legal.j0 k true t176 t177 t178 false true) else (if t177.toList = ([] : List UInt8) then (depotref20_Legal.j0 k true t176 t177 t178 false true) else (if 0 < (t177.size : Int) then ((depotref20_digit.f (bt t177 0)).bind fun t184 => (depotref20_Legal.j0 k (!t184) t176 t177 t178 false true)) else (none)))) = some r := by rw [if_pos rfl] at H; exact H
    clear H
    have H := H1
    clear H1
    by_cases c26 : t178.toList = ([] : List UInt8)
    ·rw [if_pos c26] at H
     have c26b0 : (t178.toList == ([] : List UInt8)) = true := beq_iff_eq.mpr c26
     have c26b1 : (t178.toList != ([] : List UInt8)) = false := bne_eq_false_iff_eq.mpr c26
     clear c26
     have H' := Aside0.mk H
     clear H
     have hcz27_0 : w5.cell? ⟨gb181, 0, none⟩ = some (.string (⟨#[]⟩ : ByteArray)) := (blk_cell BK181.out 0).trans rfl
     have hcz27_1 : w5.cell? ⟨gb181, 1, none⟩ = some (.string (⟨#[]⟩ : ByteArray)) := (blk_cell BK181.out 1).trans rfl
     have hcz27_2 : w5.cell? ⟨gb181, 2, none⟩ = some (.string (⟨#[]⟩ : ByteArray)) := (blk_cell BK181.out 2).trans rfl
     have hcz27_3 : w5.cell? ⟨gb181, 3, none⟩ = some (.bool false) := (blk_cell BK181.out 3).trans rfl
     have hcz27_4 : w5.cell? ⟨gb181, 4, none⟩ = some (.bool false) := (blk_cell BK181.out 4).trans rfl
     have hfz27_0 := blk_frozen BK181.out 0
     have hfz27_1 := blk_frozen BK181.out 1
     have hfz27_2 := blk_frozen BK181.out 2
     have hfz27_3 := blk_frozen BK181.out 3
     have hfz27_4 := blk_frozen BK181.out 4
     go_wp2
     go_meet
     case rel => exact ⟨_, (true), (by first | rfl | (simp; done) | (simp [*]; done)), H', ⟨by first | omega | exact Nat.le_refl _⟩, ⟨by (with_reducible repeat (first | refine blk_drewN ?_ _ | refine blk_drew ?_ | refine blk_alloc ?_ _)); refine blk_put (cs := #[.string t176, .string t177, .string t178, .bool false, .bool false]) ?_ 4 _ rfl; (with_reducible repeat (first | refine blk_drewN ?_ _ | refine blk_drew ?_ | refine blk_alloc ?_ _)); refine blk_put (cs := #[.string t176, .string t177, .string t178, .bool false, .bool false]) ?_ 3 _ rfl; (with_reducible repeat (first | refine blk_drewN ?_ _ | refine blk_drew ?_ | refine blk_alloc ?_ _)); refine blk_put (cs := #[.string t176, .string t177, .string (⟨#[]⟩ : ByteArray), .bool false, .bool false]) ?_ 2 _ rfl; (with_reducible repeat (first | refine blk_drewN ?_ _ | refine blk_drew ?_ | refine blk_alloc ?_ _)); refine blk_put (cs := #[.string t176, .string (⟨#[]⟩ : ByteArray), .string (⟨#[]⟩ : ByteArray), .bool false, .bool false]) ?_ 1 _ rfl; (with_reducible repeat (first | refine blk_drewN ?_ _ | refine blk_drew ?_ | refine blk_alloc ?_ _)); refine blk_put (cs := #[.string (⟨#[]⟩ : ByteArray), .string (⟨#[]⟩ : ByteArray), .string (⟨#[]⟩ : ByteArray), .bool false, .bool false]) ?_ 0 _ rfl; (with_reducible repeat (first | refine blk_drewN ?_ _ | refine blk_drew ?_ | refine blk_alloc ?_ _)); exact BK181.out⟩, ⟨by repeat (first | (with_reducible first | exact HB.out | apply below_alloc | apply pw_below_drewN | apply below_drew1 | refine below_set ?_ GE181.out) | exact HB.out)⟩⟩
    ·rw [if_neg c26] at H
     have c26b0 : (t178.toList == ([] : List UInt8)) = false := beq_eq_false_iff_ne.mpr c26
     have c26b1 : (t178.toList != ([] : List UInt8)) = true := bne_iff_ne.mpr c26
     by_cases c28 : t177.toList = ([] : List UInt8)
     ·rw [if_pos c28] at H
      have c28b0 : (t177.toList == ([] : List UInt8)) = true := beq_iff_eq.mpr c28
      have c28b1 : (t177.toList != ([] : List UInt8)) = false := bne_eq_false_iff_eq.mpr c28
      clear c28
      have H' := Aside0.mk H
      clear H
      have hcz29_0 : w5.cell? ⟨gb181, 0, none⟩ = some (.string (⟨#[]⟩ : ByteArray)) := (blk_cell BK181.out 0).trans rfl
      have hcz29_1 : w5.cell? ⟨gb181, 1, none⟩ = some (.string (⟨#[]⟩ : ByteArray)) := (blk_cell BK181.out 1).trans rfl
      have hcz29_2 : w5.cell? ⟨gb181, 2, none⟩ = some (.string (⟨#[]⟩ : ByteArray)) := (blk_cell BK181.out 2).trans rfl
      have hcz29_3 : w5.cell? ⟨gb181, 3, none⟩ = some (.bool false) := (blk_cell BK181.out 3).trans rfl
      have hcz29_4 : w5.cell? ⟨gb181, 4, none⟩ = some (.bool false) := (blk_cell BK181.out 4).trans rfl
      have hfz29_0 := blk_frozen BK181.out 0
      have hfz29_1 := blk_frozen BK181.out 1
      have hfz29_2 := blk_frozen BK181.out 2
      have hfz29_3 := blk_frozen BK181.out 3
      have hfz29_4 := blk_frozen BK181.out 4
      go_wp2
      go_meet
      case rel => exact ⟨_, (true), (by first | rfl | (simp; done) | (simp [*]; done)), H', ⟨by first | omega | exact Nat.le_refl _⟩, ⟨by (with_reducible repeat (first | refine blk_drewN ?_ _ | refine blk_drew ?_ | refine blk_alloc ?_ _)); refine blk_put (cs := #[.string t176, .string t177, .string t178, .bool false, .bool false]) ?_ 4 _ rfl; (with_reducible repeat (first | refine blk_drewN ?_ _ | refine blk_drew ?_ | refine blk_alloc ?_ _)); refine blk_put (cs := #[.string t176, .string t177, .string t178, .bool false, .bool false]) ?_ 3 _ rfl; (with_reducible repeat (first | refine blk_drewN ?_ _ | refine blk_drew ?_ | refine blk_alloc ?_ _)); refine blk_put (cs := #[.string t176, .string t177, .string (⟨#[]⟩ : ByteArray), .bool false, .bool false]) ?_ 2 _ rfl; (with_reducible repeat (first | refine blk_drewN ?_ _ | refine blk_drew ?_ | refine blk_alloc ?_ _)); refine blk_put (cs := #[.string t176, .string (⟨#[]⟩ : ByteArray), .string (⟨#[]⟩ : ByteArray), .bool false, .bool false]) ?_ 1 _ rfl; (with_reducible repeat (first | refine blk_drewN ?_ _ | refine blk_drew ?_ | refine blk_alloc ?_ _)); refine blk_put (cs := #[.string (⟨#[]⟩ : ByteArray), .string (⟨#[]⟩ : ByteArray), .string (⟨#[]⟩ : ByteArray), .bool false, .bool false]) ?_ 0 _ rfl; (with_reducible repeat (first | refine blk_drewN ?_ _ | refine blk_drew ?_ | refine blk_alloc ?_ _)); exact BK181.out⟩, ⟨by repeat (first | (with_reducible first | exact HB.out | apply below_alloc | apply pw_below_drewN | apply below_drew1 | refine below_set ?_ GE181.out) | exact HB.out)⟩⟩
     ·rw [if_neg c28] at H
      have c28b0 : (t177.toList == ([] : List UInt8)) = false := beq_eq_false_iff_ne.mpr c28
      have c28b1 : (t177.toList != ([] : List UInt8)) = true := bne_iff_ne.mpr c28
      by_cases c30 : 0 < (t177.size : Int)
      ·rw [if_pos c30] at H
       have c30b0 : decide (0 < (t177.size : Int)) = true := decide_eq_true c30
       have c30b1 : decide (0 < t177.size) = true := decide_eq_true (by omega)
       clear c30
       replace H := Option.bind_eq_some_iff.mp H
       obtain ⟨t184, A320, H⟩ := H
       replace H : (depotref20_Legal.j0 k (!t184) t176 t177 t178 false true) = some r := H
       have A32 := Aside0.mk A320
       clear A320
       have H' := Aside0.mk H
       clear H
       have hcz33_0 : w5.cell? ⟨gb181, 0, none⟩ = some (.string (⟨#[]⟩ : ByteArray)) := (blk_cell BK181.out 0).trans rfl
       have hcz33_1 : w5.cell? ⟨gb181, 1, none⟩ = some (.string (⟨#[]⟩ : ByteArray)) := (blk_cell BK181.out 1).trans rfl
       have hcz33_2 : w5.cell? ⟨gb181, 2, none⟩ = some (.string (⟨#[]⟩ : ByteArray)) := (blk_cell BK181.out 2).trans rfl
       have hcz33_3 : w5.cell? ⟨gb181, 3, none⟩ = some (.bool false) := (blk_cell BK181.out 3).trans rfl
       have hcz33_4 : w5.cell? ⟨gb181, 4, none⟩ = some (.bool false) := (blk_cell BK181.out 4).trans rfl
       have hfz33_0 := blk_frozen BK181.out 0
       have hfz33_1 := blk_frozen BK181.out 1
       have hfz33_2 := blk_frozen BK181.out 2
       have hfz33_3 := blk_frozen BK181.out 3
       have hfz33_4 := blk_frozen BK181.out 4
       have p31 : 0 ≤ (0 : Int) := (by omega)
       have q31 : 0 < t177.size := (by have : (0 : Int) < (t177.size : Int) := of_decide_eq_true (by first | (with_reducible assumption) | assumption); omega)
       have hx31 : ∀ h : 0 < t177.size, ((t177[0]'h).toNat : Int) = bt t177 0 := bt_at t177 0
       clear p31
       have qi31 : (0 < (t177.size : Int)) = True := eq_true (of_decide_eq_true (by first | (with_reducible assumption) | assumption))
       replace q31 := eq_true q31
       go_wp2_with (first | (go_at_call 74; (with_reducible refine (depotref20_digit.calls (bt t177 0) t184 _ A32.out).mono ?_); rintro e w' ⟨rfl, ⟨nd, rfl⟩⟩))
       go_meet
       case rel => exact ⟨_, (!t184), (by first | rfl | (simp; done) | (simp [*]; done)), H', ⟨by first | omega | exact Nat.le_refl _⟩, ⟨by (with_reducible repeat (first | refine blk_drewN ?_ _ | refine blk_drew ?_ | refine blk_alloc ?_ _)); refine blk_put (cs := #[.string t176, .string t177, .string t178, .bool false, .bool false]) ?_ 4 _ rfl; (with_reducible repeat (first | refine blk_drewN ?_ _ | refine blk_drew ?_ | refine blk_alloc ?_ _)); refine blk_put (cs := #[.string t176, .string t177, .string t178, .bool false, .bool false]) ?_ 3 _ rfl; (with_reducible repeat (first | refine blk_drewN ?_ _ | refine blk_drew ?_ | refine blk_alloc ?_ _)); refine blk_put (cs := #[.string t176, .string t177, .string (⟨#[]⟩ : ByteArray), .bool false, .bool false]) ?_ 2 _ rfl; (with_reducible repeat (first | refine blk_drewN ?_ _ | refine blk_drew ?_ | refine blk_alloc ?_ _)); refine blk_put (cs := #[.string t176, .string (⟨#[]⟩ : ByteArray), .string (⟨#[]⟩ : ByteArray), .bool false, .bool false]) ?_ 1 _ rfl; (with_reducible repeat (first | refine blk_drewN ?_ _ | refine blk_drew ?_ | refine blk_alloc ?_ _)); refine blk_put (cs := #[.string (⟨#[]⟩ : ByteArray), .string (⟨#[]⟩ : ByteArray), .string (⟨#[]⟩ : ByteArray), .bool false, .bool false]) ?_ 0 _ rfl; (with_reducible repeat (first | refine blk_drewN ?_ _ | refine blk_drew ?_ | refine blk_alloc ?_ _)); exact BK181.out⟩, ⟨by repeat (first | (with_reducible first | exact HB.out | apply below_alloc | apply pw_below_drewN | apply below_drew1 | refine below_set ?_ GE181.out) | exact HB.out)⟩⟩
      ·rw [if_neg c30] at H
       exact absurd H (by simp)
   ·replace c25 := Bool.eq_false_iff.mpr c25
    subst c25
    have H1 : (if t177.toList = ([] : List UInt8) then (depotref20_Legal.j0 k true t176 t177 t178 false false) else (if 0 < (t177.size : Int) then ((depotref20_digit.f (bt t177 0)).bind fun t185 => (depotref20_Legal.j0 k (!t185) t176 t177 t178 false false)) else (none))) = some r := by rw [if_neg (show ¬ (false = true) by decide)] at H; exact H
    clear H
    have H := H1
    clear H1
    by_cases c34 : t177.toList = ([] : List UInt8)
    ·rw [if_pos c34] at H
     have c34b0 : (t177.toList == ([] : List UInt8)) = true := beq_iff_eq.mpr c34
     have c34b1 : (t177.toList != ([] : List UInt8)) = false := bne_eq_false_iff_eq.mpr c34
     clear c34
     have H' := Aside0.mk H
     clear H
     have hcz35_0 : w5.cell? ⟨gb181, 0, none⟩ = some (.string (⟨#[]⟩ : ByteArray)) := (blk_cell BK181.out 0).trans rfl
     have hcz35_1 : w5.cell? ⟨gb181, 1, none⟩ = some (.string (⟨#[]⟩ : ByteArray)) := (blk_cell BK181.out 1).trans rfl
     have hcz35_2 : w5.cell? ⟨gb181, 2, none⟩ = some (.string (⟨#[]⟩ : ByteArray)) := (blk_cell BK181.out 2).trans rfl
     have hcz35_3 : w5.cell? ⟨gb181, 3, none⟩ = some (.bool false) := (blk_cell BK181.out 3).trans rfl
     have hcz35_4 : w5.cell? ⟨gb181, 4, none⟩ = some (.bool false) := (blk_cell BK181.out 4).trans rfl
     have hfz35_0 := blk_frozen BK181.out 0
     have hfz35_1 := blk_frozen BK181.out 1
     have hfz35_2 := blk_frozen BK181.out 2
     have hfz35_3 := blk_frozen BK181.out 3
     have hfz35_4 := blk_frozen BK181.out 4
     go_wp2
     go_meet
     case rel => exact ⟨_, (true), (by first | rfl | (simp; done) | (simp [*]; done)), H', ⟨by first | omega | exact Nat.le_refl _⟩, ⟨by (with_reducible repeat (first | refine blk_drewN ?_ _ | refine blk_drew ?_ | refine blk_alloc ?_ _)); refine blk_put (cs := #[.string t176, .string t177, .string t178, .bool false, .bool false]) ?_ 4 _ rfl; (with_reducible repeat (first | refine blk_drewN ?_ _ | refine blk_drew ?_ | refine blk_alloc ?_ _)); refine blk_put (cs := #[.string t176, .string t177, .string t178, .bool false, .bool false]) ?_ 3 _ rfl; (with_reducible repeat (first | refine blk_drewN ?_ _ | refine blk_drew ?_ | refine blk_alloc ?_ _)); refine blk_put (cs := #[.string t176, .string t177, .string (⟨#[]⟩ : ByteArray), .bool false, .bool false]) ?_ 2 _ rfl; (with_reducible repeat (first | refine blk_drewN ?_ _ | refine blk_drew ?_ | refine blk_alloc ?_ _)); refine blk_put (cs := #[.string t176, .string (⟨#[]⟩ : ByteArray), .string (⟨#[]⟩ : ByteArray), .bool false, .bool false]) ?_ 1 _ rfl; (with_reducible repeat (first | refine blk_drewN ?_ _ | refine blk_drew ?_ | refine blk_alloc ?_ _)); refine blk_put (cs := #[.string (⟨#[]⟩ : ByteArray), .string (⟨#[]⟩ : ByteArray), .string (⟨#[]⟩ : ByteArray), .bool false, .bool false]) ?_ 0 _ rfl; (with_reducible repeat (first | refine blk_drewN ?_ _ | refine blk_drew ?_ | refine blk_alloc ?_ _)); exact BK181.out⟩, ⟨by repeat (first | (with_reducible first | exact HB.out | apply below_alloc | apply pw_below_drewN | apply below_drew1 | refine below_set ?_ GE181.out) | exact HB.out)⟩⟩
    ·rw [if_neg c34] at H
     have c34b0 : (t177.toList == ([] : List UInt8)) = false := beq_eq_false_iff_ne.mpr c34
     have c34b1 : (t177.toList != ([] : List UInt8)) = true := bne_iff_ne.mpr c34
     by_cases c36 : 0 < (t177.size : Int)
     ·rw [if_pos c36] at H
      have c36b0 : decide (0 < (t177.size : Int)) = true := decide_eq_true c36
      have c36b1 : decide (0 < t177.size) = true := decide_eq_true (by omega)
      clear c36
      replace H := Option.bind_eq_some_iff.mp H
      obtain ⟨t185, A380, H⟩ := H
      replace H : (depotref20_Legal.j0 k (!t185) t176 t177 t178 false false) = some r := H
      have A38 := Aside0.mk A380
      clear A380
      have H' := Aside0.mk H
      clear H
      have hcz39_0 : w5.cell? ⟨gb181, 0, none⟩ = some (.string (⟨#[]⟩ : ByteArray)) := (blk_cell BK181.out 0).trans rfl
      have hcz39_1 : w5.cell? ⟨gb181, 1, none⟩ = some (.string (⟨#[]⟩ : ByteArray)) := (blk_cell BK181.out 1).trans rfl
      have hcz39_2 : w5.cell? ⟨gb181, 2, none⟩ = some (.string (⟨#[]⟩ : ByteArray)) := (blk_cell BK181.out 2).trans rfl
      have hcz39_3 : w5.cell? ⟨gb181, 3, none⟩ = some (.bool false) := (blk_cell BK181.out 3).trans rfl
      have hcz39_4 : w5.cell? ⟨gb181, 4, none⟩ = some (.bool false) := (blk_cell BK181.out 4).trans rfl
      have hfz39_0 := blk_frozen BK181.out 0
      have hfz39_1 := blk_frozen BK181.out 1
      have hfz39_2 := blk_frozen BK181.out 2
      have hfz39_3 := blk_frozen BK181.out 3
      have hfz39_4 := blk_frozen BK181.out 4
      have p37 : 0 ≤ (0 : Int) := (by omega)
      have q37 : 0 < t177.size := (by have : (0 : Int) < (t177.size : Int) := of_decide_eq_true (by first | (with_reducible assumption) | assumption); omega)
      have hx37 : ∀ h : 0 < t177.size, ((t177[0]'h).toNat : Int) = bt t177 0 := bt_at t177 0
      clear p37
      have qi37 : (0 < (t177.size : Int)) = True := eq_true (of_decide_eq_true (by first | (with_reducible assumption) | assumption))
      replace q37 := eq_true q37
      go_wp2_with (first | (go_at_call 74; (with_reducible refine (depotref20_digit.calls (bt t177 0) t185 _ A38.out).mono ?_); rintro e w' ⟨rfl, ⟨nd, rfl⟩⟩))
      go_meet
      case rel => exact ⟨_, (!t185), (by first | rfl | (simp; done) | (simp [*]; done)), H', ⟨by first | omega | exact Nat.le_refl _⟩, ⟨by (with_reducible repeat (first | refine blk_drewN ?_ _ | refine blk_drew ?_ | refine blk_alloc ?_ _)); refine blk_put (cs := #[.string t176, .string t177, .string t178, .bool false, .bool false]) ?_ 4 _ rfl; (with_reducible repeat (first | refine blk_drewN ?_ _ | refine blk_drew ?_ | refine blk_alloc ?_ _)); refine blk_put (cs := #[.string t176, .string t177, .string t178, .bool false, .bool false]) ?_ 3 _ rfl; (with_reducible repeat (first | refine blk_drewN ?_ _ | refine blk_drew ?_ | refine blk_alloc ?_ _)); refine blk_put (cs := #[.string t176, .string t177, .string (⟨#[]⟩ : ByteArray), .bool false, .bool false]) ?_ 2 _ rfl; (with_reducible repeat (first | refine blk_drewN ?_ _ | refine blk_drew ?_ | refine blk_alloc ?_ _)); refine blk_put (cs := #[.string t176, .string (⟨#[]⟩ : ByteArray), .string (⟨#[]⟩ : ByteArray), .bool false, .bool false]) ?_ 1 _ rfl; (with_reducible repeat (first | refine blk_drewN ?_ _ | refine blk_drew ?_ | refine blk_alloc ?_ _)); refine blk_put (cs := #[.string (⟨#[]⟩ : ByteArray), .string (⟨#[]⟩ : ByteArray), .string (⟨#[]⟩ : ByteArray), .bool false, .bool false]) ?_ 0 _ rfl; (with_reducible repeat (first | refine blk_drewN ?_ _ | refine blk_drew ?_ | refine blk_alloc ?_ _)); exact BK181.out⟩, ⟨by repeat (first | (with_reducible first | exact HB.out | apply below_alloc | apply pw_below_drewN | apply below_drew1 | refine below_set ?_ GE181.out) | exact HB.out)⟩⟩
     ·rw [if_neg c36] at H
      exact absurd H (by simp)
 case rest =>
  clear HC3
  try clear c1
  try clear p1
  try clear q1
  try clear hx1
  try clear qi1
  try clear c2
  try clear p2
  try clear q2
  try clear hx2
  try clear qi2
  try clear c3
  try clear p3
  try clear q3
  try clear hx3
  try clear qi3
  try clear c5
  try clear c7
  try clear c8
  try clear c8b0
  try clear c8b1
  try clear c10
  try clear c11
  try clear c11b0
  try clear c11b1
  try clear c13
  try clear c13b0
  try clear c13b1
  try clear c15
  try clear c15b0
  try clear c15b1
  try clear p16
  try clear q16
  try clear hx16
  try clear qi16
  try clear c19
  try clear c19b0
  try clear c19b1
  try clear c21
  try clear c21b0
  try clear c21b1
  try clear p22
  try clear q22
  try clear hx22
  try clear qi22
  try clear c25
  try clear c26
  try clear c26b0
  try clear c26b1
  try clear c28
  try clear c28b0
  try clear c28b1
  try clear c30
  try clear c30b0
  try clear c30b1
  try clear p31
  try clear q31
  try clear hx31
  try clear qi31
  try clear c34
  try clear c34b0
  try clear c34b1
  try clear c36
  try clear c36b0
  try clear c36b1
  try clear p37
  try clear q37
  try clear hx37
  try clear qi37
  try clear hcz12_0
  try clear hcz12_1
  try clear hcz12_2
  try clear hcz12_3
  try clear hcz12_4
  try clear hcz14_0
  try clear hcz14_1
  try clear hcz14_2
  try clear hcz14_3
  try clear hcz14_4
  try clear hcz18_0
  try clear hcz18_1
  try clear hcz18_2
  try clear hcz18_3
  try clear hcz18_4
  try clear hcz20_0
  try clear hcz20_1
  try clear hcz20_2
  try clear hcz20_3
  try clear hcz20_4
  try clear hcz24_0
  try clear hcz24_1
  try clear hcz24_2
  try clear hcz24_3
  try clear hcz24_4
  try clear hcz27_0
  try clear hcz27_1
  try clear hcz27_2
  try clear hcz27_3
  try clear hcz27_4
  try clear hcz29_0
  try clear hcz29_1
  try clear hcz29_2
  try clear hcz29_3
  try clear hcz29_4
  try clear hcz33_0
  try clear hcz33_1
  try clear hcz33_2
  try clear hcz33_3
  try clear hcz33_4
  try clear hcz35_0
  try clear hcz35_1
  try clear hcz35_2
  try clear hcz35_3
  try clear hcz35_4
  try clear hcz39_0
  try clear hcz39_1
  try clear hcz39_2
  try clear hcz39_3
  try clear hcz39_4
  try clear hcz6_0
  try clear hcz6_1
  try clear hcz6_2
  try clear hcz6_3
  try clear hcz6_4
  try clear hcz9_0
  try clear hcz9_1
  try clear hcz9_2
  try clear hcz9_3
  try clear hcz9_4
  try clear hfz12_0
  try clear hfz12_1
  try clear hfz12_2
  try clear hfz12_3
  try clear hfz12_4
  try clear hfz14_0
  try clear hfz14_1
  try clear hfz14_2
  try clear hfz14_3
  try clear hfz14_4
  try clear hfz18_0
  try clear hfz18_1
  try clear hfz18_2
  try clear hfz18_3
  try clear hfz18_4
  try clear hfz20_0
  try clear hfz20_1
  try clear hfz20_2
  try clear hfz20_3
  try clear hfz20_4
  try clear hfz24_0
  try clear hfz24_1
  try clear hfz24_2
  try clear hfz24_3
  try clear hfz24_4
  try clear hfz27_0
  try clear hfz27_1
  try clear hfz27_2
  try clear hfz27_3
  try clear hfz27_4
  try clear hfz29_0
  try clear hfz29_1
  try clear hfz29_2
  try clear hfz29_3
  try clear hfz29_4
  try clear hfz33_0
  try clear hfz33_1
  try clear hfz33_2
  try clear hfz33_3
  try clear hfz33_4
  try clear hfz35_0
  try clear hfz35_1
  try clear hfz35_2
  try clear hfz35_3
  try clear hfz35_4
  try clear hfz39_0
  try clear hfz39_1
  try clear hfz39_2
  try clear hfz39_3
  try clear hfz39_4
  try clear hfz6_0
  try clear hfz6_1
  try clear hfz6_2
  try clear hfz6_3
  try clear hfz6_4
  try clear hfz9_0
  try clear hfz9_1
  try clear hfz9_2
  try clear hfz9_3
  try clear hfz9_4
  try clear p16
  try clear p22
  try clear p31
  try clear p37
  try clear q16
  try clear q22
  try clear q31
  try clear q37
  obtain ⟨kq, x38_2, rfl, HA, HJ2, BK181, HB⟩ := hcut
  cases kq with
  | zero => exact absurd HA.out (by simp [depotref20_Legal.j0])
  | succ kj2 =>
   have H := HA.out
   clear HA
   simp only [depotref20_Legal.j0] at H
   by_cases c40 : x38_2 = true
   ·subst c40
    have H1 : (some false) = some r := by rw [if_pos rfl] at H; exact H
    clear H
    have H := H1
    clear H1
    obtain rfl := Option.some.inj H
    go_wp2
    go_ret
    exact ⟨by first | rfl | (simp [errW_none, errW_some] <;> rfl) | (simp [*, errW_none, errW_some] <;> rfl) | (simp [errW_none, errW_some, Go.Proofs.YtmocooihkobdjaaDoor.listNe]; done), by repeat (first | (with_reducible first | exact HB.out | apply below_alloc | apply pw_below_drewN | apply below_drew1 | refine below_set ?_ GE181.out) | exact HB.out)⟩
   ·replace c40 := Bool.eq_false_iff.mpr c40
    subst c40
    have H1 : (depotref20_Legal.l0 kj2 0 t176 t177 t178 t179 t180) = some r := by rw [if_neg (show ¬ (false = true) by decide)] at H; exact H
    clear H
    have H := H1
    clear H1
    have H' := Aside0.mk H
    clear H
    go_wp2
    go_loopg [4] kj2 (fun kq v4 w' => ∃ (x4_2 : Int), v4 = .int .i64 x4_2 ∧ Aside0 (depotref20_Legal.l0 kq x4_2 t176 t177 t178 t179 t180 = some r) ∧ Aside0 (kq ≤ kj2) ∧ Aside0 (w'.heap[gb181]? = some (.cells #[.string t176, .string t177, .string t178, .bool t179, .bool t180] 112 (0, 0))) ∧ Aside0 (Below w.heap.size w w'))
    case atStart => exact ⟨(0), (by first | rfl | (simp; done) | (simp [*]; done)), H', ⟨Nat.le_refl _⟩, ⟨by (with_reducible repeat (first | refine blk_drewN ?_ _ | refine blk_drew ?_ | refine blk_alloc ?_ _)); exact BK181.out⟩, ⟨by repeat (first | (with_reducible first | exact HB.out | apply below_alloc | apply pw_below_drewN | apply below_drew1 | refine below_set ?_ GE181.out) | exact HB.out)⟩⟩
    case round =>
     clear H'
     try clear c1
     try clear p1
     try clear q1
     try clear hx1
     try clear qi1
     try clear c2
     try clear p2
     try clear q2
     try clear hx2
     try clear qi2
     try clear c3
     try clear p3
     try clear q3
     try clear hx3
     try clear qi3
     try clear c4
     try clear c5
     try clear c7
     try clear c8
     try clear c8b0
     try clear c8b1
     try clear c10
     try clear c11
     try clear c11b0
     try clear c11b1
     try clear c13
     try clear c13b0
     try clear c13b1
     try clear c15
     try clear c15b0
     try clear c15b1
     try clear p16
     try clear q16
     try clear hx16
     try clear qi16
     try clear c19
     try clear c19b0
     try clear c19b1
     try clear c21
     try clear c21b0
     try clear c21b1
     try clear p22
     try clear q22
     try clear hx22
     try clear qi22
     try clear c25
     try clear c26
     try clear c26b0
     try clear c26b1
     try clear c28
     try clear c28b0
     try clear c28b1
     try clear c30
     try clear c30b0
     try clear c30b1
     try clear p31
     try clear q31
     try clear hx31
     try clear qi31
     try clear c34
     try clear c34b0
     try clear c34b1
     try clear c36
     try clear c36b0
     try clear c36b1
     try clear p37
     try clear q37
     try clear hx37
     try clear qi37
     try clear c40
     try clear hcz12_0
     try clear hcz12_1
     try clear hcz12_2
     try clear hcz12_3
     try clear hcz12_4
     try clear hcz14_0
     try clear hcz14_1
     try clear hcz14_2
     try clear hcz14_3
     try clear hcz14_4
     try clear hcz18_0
     try clear hcz18_1
     try clear hcz18_2
     try clear hcz18_3
     try clear hcz18_4
     try clear hcz20_0
     try clear hcz20_1
     try clear hcz20_2
     try clear hcz20_3
     try clear hcz20_4
     try clear hcz24_0
     try clear hcz24_1
     try clear hcz24_2
     try clear hcz24_3
     try clear hcz24_4
     try clear hcz27_0
     try clear hcz27_1
     try clear hcz27_2
     try clear hcz27_3
     try clear hcz27_4
     try clear hcz29_0
     try clear hcz29_1
     try clear hcz29_2
     try clear hcz29_3
     try clear hcz29_4
     try clear hcz33_0
     try clear hcz33_1
     try clear hcz33_2
     try clear hcz33_3
     try clear hcz33_4
     try clear hcz35_0
     try clear hcz35_1
     try clear hcz35_2
     try clear hcz35_3
     try clear hcz35_4
     try clear hcz39_0
     try clear hcz39_1
     try clear hcz39_2
     try clear hcz39_3
     try clear hcz39_4
     try clear hcz6_0
     try clear hcz6_1
     try clear hcz6_2
     try clear hcz6_3
     try clear hcz6_4
     try clear hcz9_0
     try clear hcz9_1
     try clear hcz9_2
     try clear hcz9_3
     try clear hcz9_4
     try clear hfz12_0
     try clear hfz12_1
     try clear hfz12_2
     try clear hfz12_3
     try clear hfz12_4
     try clear hfz14_0
     try clear hfz14_1
     try clear hfz14_2
     try clear hfz14_3
     try clear hfz14_4
     try clear hfz18_0
     try clear hfz18_1
     try clear hfz18_2
     try clear hfz18_3
     try clear hfz18_4
     try clear hfz20_0
     try clear hfz20_1
     try clear hfz20_2
     try clear hfz20_3
     try clear hfz20_4
     try clear hfz24_0
     try clear hfz24_1
     try clear hfz24_2
     try clear hfz24_3
     try clear hfz24_4
     try clear hfz27_0
     try clear hfz27_1
     try clear hfz27_2
     try clear hfz27_3
     try clear hfz27_4
     try clear hfz29_0
     try clear hfz29_1
     try clear hfz29_2
     try clear hfz29_3
     try clear hfz29_4
     try clear hfz33_0
     try clear hfz33_1
     try clear hfz33_2
     try clear hfz33_3
     try clear hfz33_4
     try clear hfz35_0
     try clear hfz35_1
     try clear hfz35_2
     try clear hfz35_3
     try clear hfz35_4
     try clear hfz39_0
     try clear hfz39_1
     try clear hfz39_2
     try clear hfz39_3
     try clear hfz39_4
     try clear hfz6_0
     try clear hfz6_1
     try clear hfz6_2
     try clear hfz6_3
     try clear hfz6_4
     try clear hfz9_0
     try clear hfz9_1
     try clear hfz9_2
     try clear hfz9_3
     try clear hfz9_4
     try clear p1
     try clear p16
     try clear p2
     try clear p22
     try clear p3
     try clear p31
     try clear p37
     try clear q1
     try clear q16
     try clear q2
     try clear q22
     try clear q3
     try clear q31
     try clear q37
     obtain ⟨x4_2, rfl, HA, HK2, BK181, HB⟩ := hrel
     cases gk with
     | zero => exact absurd HA.out (by simp [depotref20_Legal.l0])
     | succ k2 =>
      have H := HA.out
      clear HA
      simp only [depotref20_Legal.l0] at H
      by_cases c41 : x4_2 < (t176.size : Int)
      ·rw [if_pos c41] at H
       have c41b0 : decide (x4_2 < (t176.size : Int)) = true := decide_eq_true c41
       clear c41
       by_cases c42 : 0 ≤ x4_2
       ·rw [if_pos c42] at H
        have c42b0 : decide (0 ≤ x4_2) = true := decide_eq_true c42
        clear c42
        replace H := Option.bind_eq_some_iff.mp H
        obtain ⟨t186, A440, H⟩ := H
        replace H : (if t186 = true then (depotref20_Legal.l0 k2 (wrap64 (x4_2 + 1)) t176 t177 t178 t179 t180) else (some false)) = some r := H
        have A44 := Aside0.mk A440
        clear A440
        by_cases c45 : t186 = true
        ·subst c45
         have H1 : (depotref20_Legal.l0 k2 (wrap64 (x4_2 + 1)) t176 t177 t178 t179 t180) = some r := by rw [if_pos rfl] at H; exact H
         clear H
         have H := H1
         clear H1
         have H' := Aside0.mk H
         clear H
         have hcz46_0 : wr.cell? ⟨gb181, 0, none⟩ = some (.string t176) := (blk_cell BK181.out 0).trans rfl
         have hcz46_1 : wr.cell? ⟨gb181, 1, none⟩ = some (.string t177) := (blk_cell BK181.out 1).trans rfl
         have hcz46_2 : wr.cell? ⟨gb181, 2, none⟩ = some (.string t178) := (blk_cell BK181.out 2).trans rfl
         have hcz46_3 : wr.cell? ⟨gb181, 3, none⟩ = some (.bool t179) := (blk_cell BK181.out 3).trans rfl
         have hcz46_4 : wr.cell? ⟨gb181, 4, none⟩ = some (.bool t180) := (blk_cell BK181.out 4).trans rfl
         have hfz46_0 := blk_frozen BK181.out 0
         have hfz46_1 := blk_frozen BK181.out 1
         have hfz46_2 := blk_frozen BK181.out 2
         have hfz46_3 := blk_frozen BK181.out 3
         have hfz46_4 := blk_frozen BK181.out 4
         have p43 : 0 ≤ (x4_2 : Int) := of_decide_eq_true (by first | (with_reducible assumption) | assumption)
         have q43 : x4_2 < (t176.size : Int) := of_decide_eq_true (by first | (with_reducible assumption) | assumption)
         have hx43 := bt_at t176 x4_2
         replace p43 := eq_true p43
         replace q43 := eq_true q43
         go_wp2_with (first | ((with_reducible refine gate_callee (f := 74) rfl ?_); refine goesL_ (some 50) rfl rfl Tryd.func74 (by kernel_rfl) rfl #[.int .u8 (bt t176 x4_2)] rfl (by (try simp only [List.map_toArray, List.map_cons, List.map_nil]); first | done | rfl | (simp only [List.length_drop, List.length_take]; rfl) | (simp; done)) ?_; (with_reducible refine (depotref20_digit.calls (bt t176 x4_2) true _ A44.out).mono ?_); rintro e w' ⟨rfl, ⟨nd, rfl⟩⟩; refine ⟨_, rfl, ?_⟩))
         go_roundg k2
         case measure => have := HJ2.out; have := HK2.out; omega
         case rel => exact ⟨(wrap64 (x4_2 + 1)), (by first | rfl | (simp; done) | (simp [*]; done)), H', ⟨by have := HJ2.out; have := HK2.out; omega⟩, ⟨by (with_reducible repeat (first | refine blk_drewN ?_ _ | refine blk_drew ?_ | refine blk_alloc ?_ _)); exact BK181.out⟩, ⟨by repeat (first | (with_reducible first | exact HB.out | apply below_alloc | apply pw_below_drewN | apply below_drew1 | refine below_set ?_ GE181.out) | exact HB.out)⟩⟩
        ·replace c45 := Bool.eq_false_iff.mpr c45
         subst c45
         have H1 : (some false) = some r := by rw [if_neg (show ¬ (false = true) by decide)] at H; exact H
         clear H
         have H := H1
         clear H1
         obtain rfl := Option.some.inj H
         have hcz47_0 : wr.cell? ⟨gb181, 0, none⟩ = some (.string t176) := (blk_cell BK181.out 0).trans rfl
         have hcz47_1 : wr.cell? ⟨gb181, 1, none⟩ = some (.string t177) := (blk_cell BK181.out 1).trans rfl
         have hcz47_2 : wr.cell? ⟨gb181, 2, none⟩ = some (.string t178) := (blk_cell BK181.out 2).trans rfl
         have hcz47_3 : wr.cell? ⟨gb181, 3, none⟩ = some (.bool t179) := (blk_cell BK181.out 3).trans rfl
         have hcz47_4 : wr.cell? ⟨gb181, 4, none⟩ = some (.bool t180) := (blk_cell BK181.out 4).trans rfl
         have hfz47_0 := blk_frozen BK181.out 0
         have hfz47_1 := blk_frozen BK181.out 1
         have hfz47_2 := blk_frozen BK181.out 2
         have hfz47_3 := blk_frozen BK181.out 3
         have hfz47_4 := blk_frozen BK181.out 4
         have p43 : 0 ≤ (x4_2 : Int) := of_decide_eq_true (by first | (with_reducible assumption) | assumption)
         have q43 : x4_2 < (t176.size : Int) := of_decide_eq_true (by first | (with_reducible assumption) | assumption)
         have hx43 := bt_at t176 x4_2
         replace p43 := eq_true p43
         replace q43 := eq_true q43
         go_wp2_with (first | ((with_reducible refine gate_callee (f := 74) rfl ?_); refine goesL_ (some 50) rfl rfl Tryd.func74 (by kernel_rfl) rfl #[.int .u8 (bt t176 x4_2)] rfl (by (try simp only [List.map_toArray, List.map_cons, List.map_nil]); first | done | rfl | (simp only [List.length_drop, List.length_take]; rfl) | (simp; done)) ?_; (with_reducible refine (depotref20_digit.calls (bt t176 x4_2) false _ A44.out).mono ?_); rintro e w' ⟨rfl, ⟨nd, rfl⟩⟩; refine ⟨_, rfl, ?_⟩))
         go_ret
         exact ⟨by first | rfl | (simp [errW_none, errW_some] <;> rfl) | (simp [*, errW_none, errW_some] <;> rfl) | (simp [errW_none, errW_some, Go.Proofs.YtmocooihkobdjaaDoor.listNe]; done), by repeat (first | (with_reducible first | exact HB.out | apply below_alloc | apply pw_below_drewN | apply below_drew1 | refine below_set ?_ GE181.out) | exact HB.out)⟩
       ·rw [if_neg c42] at H
        exact absurd H (by simp)
      ·rw [if_neg c41] at H
       have c41b0 : decide (x4_2 < (t176.size : Int)) = false := decide_eq_false c41
       clear c41
       have H' := Aside0.mk H
       clear H
       have hcz48_0 : wr.cell? ⟨gb181, 0, none⟩ = some (.string t176) := (blk_cell BK181.out 0).trans rfl
       have hcz48_1 : wr.cell? ⟨gb181, 1, none⟩ = some (.string t177) := (blk_cell BK181.out 1).trans rfl
       have hcz48_2 : wr.cell? ⟨gb181, 2, none⟩ = some (.string t178) := (blk_cell BK181.out 2).trans rfl
       have hcz48_3 : wr.cell? ⟨gb181, 3, none⟩ = some (.bool t179) := (blk_cell BK181.out 3).trans rfl
       have hcz48_4 : wr.cell? ⟨gb181, 4, none⟩ = some (.bool t180) := (blk_cell BK181.out 4).trans rfl
       have hfz48_0 := blk_frozen BK181.out 0
       have hfz48_1 := blk_frozen BK181.out 1
       have hfz48_2 := blk_frozen BK181.out 2
       have hfz48_3 := blk_frozen BK181.out 3
       have hfz48_4 := blk_frozen BK181.out 4
       go_wp2
       go_loopg [5] k2 (fun kq v5 w' => ∃ (x5_3 : Int), v5 = .int .i64 x5_3 ∧ Aside0 (depotref20_Legal.l1 kq x5_3 t176 t177 t178 t179 t180 = some r) ∧ Aside0 (kq ≤ k2) ∧ Aside0 (w'.heap[gb181]? = some (.cells #[.string t176, .string t177, .string t178, .bool t179, .bool t180] 112 (0, 0))) ∧ Aside0 (Below w.heap.size w w'))
       case atStart => exact ⟨(0), (by first | rfl | (simp; done) | (simp [*]; done)), H', ⟨Nat.le_refl _⟩, ⟨by (with_reducible repeat (first | refine blk_drewN ?_ _ | refine blk_drew ?_ | refine blk_alloc ?_ _)); exact BK181.out⟩, ⟨by repeat (first | (with_reducible first | exact HB.out | apply below_alloc | apply pw_below_drewN | apply below_drew1 | refine below_set ?_ GE181.out) | exact HB.out)⟩⟩
       case round =>
        clear H'
        try clear c1
        try clear p1
        try clear q1
        try clear hx1
        try clear qi1
        try clear c2
        try clear p2
        try clear q2
        try clear hx2
        try clear qi2
        try clear c3
        try clear p3
        try clear q3
        try clear hx3
        try clear qi3
        try clear c4
        try clear p4
        try clear q4
        try clear hx4
        try clear c5
        try clear p6
        try clear c7
        try clear c8
        try clear c8b0
        try clear c8b1
        try clear c10
        try clear c11
        try clear c11b0
        try clear c11b1
        try clear c13
        try clear c13b0
        try clear c13b1
        try clear c15
        try clear c15b0
        try clear c15b1
        try clear p16
        try clear q16
        try clear hx16
        try clear qi16
        try clear c19
        try clear c19b0
        try clear c19b1
        try clear c21
        try clear c21b0
        try clear c21b1
        try clear p22
        try clear q22
        try clear hx22
        try clear qi22
        try clear c25
        try clear c26
        try clear c26b0
        try clear c26b1
        try clear c28
        try clear c28b0
        try clear c28b1
        try clear c30
        try clear c30b0
        try clear c30b1
        try clear p31
        try clear q31
        try clear hx31
        try clear qi31
        try clear c34
        try clear c34b0
        try clear c34b1
        try clear c36
        try clear c36b0
        try clear c36b1
        try clear p37
        try clear q37
        try clear hx37
        try clear qi37
        try clear c40
        try clear c41
        try clear c41b0
        try clear c42
        try clear c42b0
        try clear p43
        try clear q43
        try clear hx43
        try clear c45
        try clear hcz12_0
        try clear hcz12_1
        try clear hcz12_2
        try clear hcz12_3
        try clear hcz12_4
        try clear hcz14_0
        try clear hcz14_1
        try clear hcz14_2
        try clear hcz14_3
        try clear hcz14_4
        try clear hcz18_0
        try clear hcz18_1
        try clear hcz18_2
        try clear hcz18_3
        try clear hcz18_4
        try clear hcz20_0
        try clear hcz20_1
        try clear hcz20_2
        try clear hcz20_3
        try clear hcz20_4
        try clear hcz24_0
        try clear hcz24_1
        try clear hcz24_2
        try clear hcz24_3
        try clear hcz24_4
        try clear hcz27_0
        try clear hcz27_1
        try clear hcz27_2
        try clear hcz27_3
        try clear hcz27_4
        try clear hcz29_0
        try clear hcz29_1
        try clear hcz29_2
        try clear hcz29_3
        try clear hcz29_4
        try clear hcz33_0
        try clear hcz33_1
        try clear hcz33_2
        try clear hcz33_3
        try clear hcz33_4
        try clear hcz35_0
        try clear hcz35_1
        try clear hcz35_2
        try clear hcz35_3
        try clear hcz35_4
        try clear hcz39_0
        try clear hcz39_1
        try clear hcz39_2
        try clear hcz39_3
        try clear hcz39_4
        try clear hcz46_0
        try clear hcz46_1
        try clear hcz46_2
        try clear hcz46_3
        try clear hcz46_4
        try clear hcz47_0
        try clear hcz47_1
        try clear hcz47_2
        try clear hcz47_3
        try clear hcz47_4
        try clear hcz48_0
        try clear hcz48_1
        try clear hcz48_2
        try clear hcz48_3
        try clear hcz48_4
        try clear hcz6_0
        try clear hcz6_1
        try clear hcz6_2
        try clear hcz6_3
        try clear hcz6_4
        try clear hcz9_0
        try clear hcz9_1
        try clear hcz9_2
        try clear hcz9_3
        try clear hcz9_4
        try clear hfz12_0
        try clear hfz12_1
        try clear hfz12_2
        try clear hfz12_3
        try clear hfz12_4
        try clear hfz14_0
        try clear hfz14_1
        try clear hfz14_2
        try clear hfz14_3
        try clear hfz14_4
        try clear hfz18_0
        try clear hfz18_1
        try clear hfz18_2
        try clear hfz18_3
        try clear hfz18_4
        try clear hfz20_0
        try clear hfz20_1
        try clear hfz20_2
        try clear hfz20_3
        try clear hfz20_4
        try clear hfz24_0
        try clear hfz24_1
        try clear hfz24_2
        try clear hfz24_3
        try clear hfz24_4
        try clear hfz27_0
        try clear hfz27_1
        try clear hfz27_2
        try clear hfz27_3
        try clear hfz27_4
        try clear hfz29_0
        try clear hfz29_1
        try clear hfz29_2
        try clear hfz29_3
        try clear hfz29_4
        try clear hfz33_0
        try clear hfz33_1
        try clear hfz33_2
        try clear hfz33_3
        try clear hfz33_4
        try clear hfz35_0
        try clear hfz35_1
        try clear hfz35_2
        try clear hfz35_3
        try clear hfz35_4
        try clear hfz39_0
        try clear hfz39_1
        try clear hfz39_2
        try clear hfz39_3
        try clear hfz39_4
        try clear hfz46_0
        try clear hfz46_1
        try clear hfz46_2
        try clear hfz46_3
        try clear hfz46_4
        try clear hfz47_0
        try clear hfz47_1
        try clear hfz47_2
        try clear hfz47_3
        try clear hfz47_4
        try clear hfz48_0
        try clear hfz48_1
        try clear hfz48_2
        try clear hfz48_3
        try clear hfz48_4
        try clear hfz6_0
        try clear hfz6_1
        try clear hfz6_2
        try clear hfz6_3
        try clear hfz6_4
        try clear hfz9_0
        try clear hfz9_1
        try clear hfz9_2
        try clear hfz9_3
        try clear hfz9_4
        try clear p1
        try clear p16
        try clear p2
        try clear p22
        try clear p3
        try clear p31
        try clear p37
        try clear p43
        try clear q1
        try clear q16
        try clear q2
        try clear q22
        try clear q3
        try clear q31
        try clear q37
        try clear q43
        obtain ⟨x5_3, rfl, HA, HK3, BK181, HB⟩ := hrel
        cases gk with
        | zero => exact absurd HA.out (by simp [depotref20_Legal.l1])
        | succ k3 =>
         have H := HA.out
         clear HA
         simp only [depotref20_Legal.l1] at H
         by_cases c49 : x5_3 < (t177.size : Int)
         ·rw [if_pos c49] at H
          have c49b0 : decide (x5_3 < (t177.size : Int)) = true := decide_eq_true c49
          clear c49
          by_cases c50 : 0 ≤ x5_3
          ·rw [if_pos c50] at H
           have c50b0 : decide (0 ≤ x5_3) = true := decide_eq_true c50
           clear c50
           replace H := Option.bind_eq_some_iff.mp H
           obtain ⟨t187, A520, H⟩ := H
           replace H : (if t187 = true then (depotref20_Legal.l1 k3 (wrap64 (x5_3 + 1)) t176 t177 t178 t179 t180) else ((depotref20_digit.f (bt t177 x5_3)).bind fun t188 => (if t188 = true then (depotref20_Legal.l1 k3 (wrap64 (x5_3 + 1)) t176 t177 t178 t179 t180) else (if (bt t177 x5_3) = 46 then (depotref20_Legal.l1 k3 (wrap64 (x5_3 + 1)) t176 t177 t178 t179 t180) else (if (bt t177 x5_3) = 43 then (depotref20_Legal.l1 k3 (wrap64 (x5_3 + 1)) t176 t177 t178 t179 t180) else (if (bt t177 x5_3) = 45 then (depotref20_Legal.l1 k3 (wrap64 (x5_3 + 1)) t176 t177 t178 t179 t180) else (if (bt t177 x5_3) = 126 then (depotref20_Legal.l1 k3 (wrap64 (x5_3 + 1)) t176 t177 t178 t179 t180) else (if (bt t177 x5_3) = 58 then (if t179 = true then (depotref20_Legal.l1 k3 (wrap64 (x5_3 + 1)) t176 t177 t178 t179 t180) else (some false)) else (some false))))))))) = some r := H
           have A52 := Aside0.mk A520
           clear A520
           by_cases c53 : t187 = true
           ·subst c53
            have H1 : (depotref20_Legal.l1 k3 (wrap64 (x5_3 + 1)) t176 t177 t178 t179 t180) = some r := by rw [if_pos rfl] at H; exact H
            clear H
            have H := H1
            clear H1
            have H' := Aside0.mk H
            clear H
            have hcz54_0 : wr.cell? ⟨gb181, 0, none⟩ = some (.string t176) := (blk_cell BK181.out 0).trans rfl
            have hcz54_1 : wr.cell? ⟨gb181, 1, none⟩ = some (.string t177) := (blk_cell BK181.out 1).trans rfl
            have hcz54_2 : wr.cell? ⟨gb181, 2, none⟩ = some (.string t178) := (blk_cell BK181.out 2).trans rfl
            have hcz54_3 : wr.cell? ⟨gb181, 3, none⟩ = some (.bool t179) := (blk_cell BK181.out 3).trans rfl
            have hcz54_4 : wr.cell? ⟨gb181, 4, none⟩ = some (.bool t180) := (blk_cell BK181.out 4).trans rfl
            have hfz54_0 := blk_frozen BK181.out 0
            have hfz54_1 := blk_frozen BK181.out 1
            have hfz54_2 := blk_frozen BK181.out 2
            have hfz54_3 := blk_frozen BK181.out 3
            have hfz54_4 := blk_frozen BK181.out 4
            have p51 : 0 ≤ (x5_3 : Int) := of_decide_eq_true (by first | (with_reducible assumption) | assumption)
            have q51 : x5_3 < (t177.size : Int) := of_decide_eq_true (by first | (with_reducible assumption) | assumption)
            have hx51 := bt_at t177 x5_3
            replace p51 := eq_true p51
            replace q51 := eq_true q51
            go_wp2_with (first | ((with_reducible refine gate_callee (f := 75) rfl ?_); refine goesL_ (some 64) rfl rfl Tryd.func75 (by kernel_rfl) rfl #[.int .u8 (bt t177 x5_3)] rfl (by (try simp only [List.map_toArray, List.map_cons, List.map_nil]); first | done | rfl | (simp only [List.length_drop, List.length_take]; rfl) | (simp; done)) ?_; (with_reducible refine (depotref20_letter.calls (bt t177 x5_3) true _ A52.out).mono ?_); rintro e w' ⟨rfl, ⟨nd, rfl⟩⟩; refine ⟨_, rfl, ?_⟩))
            go_roundg k3
            case measure => have := HJ2.out; have := HK2.out; have := HK3.out; omega
            case rel => exact ⟨(wrap64 (x5_3 + 1)), (by first | rfl | (simp; done) | (simp [*]; done)), H', ⟨by have := HJ2.out; have := HK2.out; have := HK3.out; omega⟩, ⟨by (with_reducible repeat (first | refine blk_drewN ?_ _ | refine blk_drew ?_ | refine blk_alloc ?_ _)); exact BK181.out⟩, ⟨by repeat (first | (with_reducible first | exact HB.out | apply below_alloc | apply pw_below_drewN | apply below_drew1 | refine below_set ?_ GE181.out) | exact HB.out)⟩⟩
           ·replace c53 := Bool.eq_false_iff.mpr c53
            subst c53
            have H1 : ((depotref20_digit.f (bt t177 x5_3)).bind fun t188 => (if t188 = true then (depotref20_Legal.l1 k3 (wrap64 (x5_3 + 1)) t176 t177 t178 t179 t180) else (if (bt t177 x5_3) = 46 then (depotref20_Legal.l1 k3 (wrap64 (x5_3 + 1)) t176 t177 t178 t179 t180) else (if (bt t177 x5_3) = 43 then (depotref20_Legal.l1 k3 (wrap64 (x5_3 + 1)) t176 t177 t178 t179 t180) else (if (bt t177 x5_3) = 45 then (depotref20_Legal.l1 k3 (wrap64 (x5_3 + 1)) t176 t177 t178 t179 t180) else (if (bt t177 x5_3) = 126 then (depotref20_Legal.l1 k3 (wrap64 (x5_3 + 1)) t176 t177 t178 t179 t180) else (if (bt t177 x5_3) = 58 then (if t179 = true then (depotref20_Legal.l1 k3 (wrap64 (x5_3 + 1)) t176 t177 t178 t179 t180) else (some false)) else (some false)))))))) = some r := by rw [if_neg (show ¬ (false = true) by decide)] at H; exact H
            clear H
            have H := H1
            clear H1
            replace H := Option.bind_eq_some_iff.mp H
            obtain ⟨t188, A550, H⟩ := H
            replace H : (if t188 = true then (depotref20_Legal.l1 k3 (wrap64 (x5_3 + 1)) t176 t177 t178 t179 t180) else (if (bt t177 x5_3) = 46 then (depotref20_Legal.l1 k3 (wrap64 (x5_3 + 1)) t176 t177 t178 t179 t180) else (if (bt t177 x5_3) = 43 then (depotref20_Legal.l1 k3 (wrap64 (x5_3 + 1)) t176 t177 t178 t179 t180) else (if (bt t177 x5_3) = 45 then (depotref20_Legal.l1 k3 (wrap64 (x5_3 + 1)) t176 t177 t178 t179 t180) else (if (bt t177 x5_3) = 126 then (depotref20_Legal.l1 k3 (wrap64 (x5_3 + 1)) t176 t177 t178 t179 t180) else (if (bt t177 x5_3) = 58 then (if t179 = true then (depotref20_Legal.l1 k3 (wrap64 (x5_3 + 1)) t176 t177 t178 t179 t180) else (some false)) else (some false))))))) = some r := H
            have A55 := Aside0.mk A550
            clear A550
            by_cases c56 : t188 = true
            ·subst c56
             have H1 : (depotref20_Legal.l1 k3 (wrap64 (x5_3 + 1)) t176 t177 t178 t179 t180) = some r := by rw [if_pos rfl] at H; exact H
             clear H
             have H := H1
             clear H1
             have H' := Aside0.mk H
             clear H
             have hcz57_0 : wr.cell? ⟨gb181, 0, none⟩ = some (.string t176) := (blk_cell BK181.out 0).trans rfl
             have hcz57_1 : wr.cell? ⟨gb181, 1, none⟩ = some (.string t177) := (blk_cell BK181.out 1).trans rfl
             have hcz57_2 : wr.cell? ⟨gb181, 2, none⟩ = some (.string t178) := (blk_cell BK181.out 2).trans rfl
             have hcz57_3 : wr.cell? ⟨gb181, 3, none⟩ = some (.bool t179) := (blk_cell BK181.out 3).trans rfl
             have hcz57_4 : wr.cell? ⟨gb181, 4, none⟩ = some (.bool t180) := (blk_cell BK181.out 4).trans rfl
             have hfz57_0 := blk_frozen BK181.out 0
             have hfz57_1 := blk_frozen BK181.out 1
             have hfz57_2 := blk_frozen BK181.out 2
             have hfz57_3 := blk_frozen BK181.out 3
             have hfz57_4 := blk_frozen BK181.out 4
             have p51 : 0 ≤ (x5_3 : Int) := of_decide_eq_true (by first | (with_reducible assumption) | assumption)
             have q51 : x5_3 < (t177.size : Int) := of_decide_eq_true (by first | (with_reducible assumption) | assumption)
             have hx51 := bt_at t177 x5_3
             replace p51 := eq_true p51
             replace q51 := eq_true q51
             go_wp2_with (first | ((with_reducible refine gate_callee (f := 75) rfl ?_); refine goesL_ (some 64) rfl rfl Tryd.func75 (by kernel_rfl) rfl #[.int .u8 (bt t177 x5_3)] rfl (by (try simp only [List.map_toArray, List.map_cons, List.map_nil]); first | done | rfl | (simp only [List.length_drop, List.length_take]; rfl) | (simp; done)) ?_; (with_reducible refine (depotref20_letter.calls (bt t177 x5_3) false _ A52.out).mono ?_); rintro e w' ⟨rfl, ⟨nd, rfl⟩⟩; refine ⟨_, rfl, ?_⟩) | (go_at_call 74; (with_reducible refine (depotref20_digit.calls (bt t177 x5_3) true _ A55.out).mono ?_); rintro e w' ⟨rfl, ⟨nd, rfl⟩⟩))
             go_roundg k3
             case measure => have := HJ2.out; have := HK2.out; have := HK3.out; omega
             case rel => exact ⟨(wrap64 (x5_3 + 1)), (by first | rfl | (simp; done) | (simp [*]; done)), H', ⟨by have := HJ2.out; have := HK2.out; have := HK3.out; omega⟩, ⟨by (with_reducible repeat (first | refine blk_drewN ?_ _ | refine blk_drew ?_ | refine blk_alloc ?_ _)); exact BK181.out⟩, ⟨by repeat (first | (with_reducible first | exact HB.out | apply below_alloc | apply pw_below_drewN | apply below_drew1 | refine below_set ?_ GE181.out) | exact HB.out)⟩⟩
            ·replace c56 := Bool.eq_false_iff.mpr c56
             subst c56
             have H1 : (if (bt t177 x5_3) = 46 then (depotref20_Legal.l1 k3 (wrap64 (x5_3 + 1)) t176 t177 t178 t179 t180) else (if (bt t177 x5_3) = 43 then (depotref20_Legal.l1 k3 (wrap64 (x5_3 + 1)) t176 t177 t178 t179 t180) else (if (bt t177 x5_3) = 45 then (depotref20_Legal.l1 k3 (wrap64 (x5_3 + 1)) t176 t177 t178 t179 t180) else (if (bt t177 x5_3) = 126 then (depotref20_Legal.l1 k3 (wrap64 (x5_3 + 1)) t176 t177 t178 t179 t180) else (if (bt t177 x5_3) = 58 then (if t179 = true then (depotref20_Legal.l1 k3 (wrap64 (x5_3 + 1)) t176 t177 t178 t179 t180) else (some false)) else (some false)))))) = some r := by rw [if_neg (show ¬ (false = true) by decide)] at H; exact H
             clear H
             have H := H1
             clear H1
             by_cases c58 : (bt t177 x5_3) = 46
             ·rw [if_pos c58] at H
              have c58b0 : ((bt t177 x5_3) == 46) = true := beq_iff_eq.mpr c58
              have c58b1 : ((bt t177 x5_3) != 46) = false := bne_eq_false_iff_eq.mpr c58
              clear c58
              have H' := Aside0.mk H
              clear H
              have hcz59_0 : wr.cell? ⟨gb181, 0, none⟩ = some (.string t176) := (blk_cell BK181.out 0).trans rfl
              have hcz59_1 : wr.cell? ⟨gb181, 1, none⟩ = some (.string t177) := (blk_cell BK181.out 1).trans rfl
              have hcz59_2 : wr.cell? ⟨gb181, 2, none⟩ = some (.string t178) := (blk_cell BK181.out 2).trans rfl
              have hcz59_3 : wr.cell? ⟨gb181, 3, none⟩ = some (.bool t179) := (blk_cell BK181.out 3).trans rfl
              have hcz59_4 : wr.cell? ⟨gb181, 4, none⟩ = some (.bool t180) := (blk_cell BK181.out 4).trans rfl
              have hfz59_0 := blk_frozen BK181.out 0
              have hfz59_1 := blk_frozen BK181.out 1
              have hfz59_2 := blk_frozen BK181.out 2
              have hfz59_3 := blk_frozen BK181.out 3
              have hfz59_4 := blk_frozen BK181.out 4
              have p51 : 0 ≤ (x5_3 : Int) := of_decide_eq_true (by first | (with_reducible assumption) | assumption)
              have q51 : x5_3 < (t177.size : Int) := of_decide_eq_true (by first | (with_reducible assumption) | assumption)
              have hx51 := bt_at t177 x5_3
              replace p51 := eq_true p51
              replace q51 := eq_true q51
              go_wp2_with (first | ((with_reducible refine gate_callee (f := 75) rfl ?_); refine goesL_ (some 64) rfl rfl Tryd.func75 (by kernel_rfl) rfl #[.int .u8 (bt t177 x5_3)] rfl (by (try simp only [List.map_toArray, List.map_cons, List.map_nil]); first | done | rfl | (simp only [List.length_drop, List.length_take]; rfl) | (simp; done)) ?_; (with_reducible refine (depotref20_letter.calls (bt t177 x5_3) false _ A52.out).mono ?_); rintro e w' ⟨rfl, ⟨nd, rfl⟩⟩; refine ⟨_, rfl, ?_⟩) | (go_at_call 74; (with_reducible refine (depotref20_digit.calls (bt t177 x5_3) false _ A55.out).mono ?_); rintro e w' ⟨rfl, ⟨nd, rfl⟩⟩))
              go_roundg k3
              case measure => have := HJ2.out; have := HK2.out; have := HK3.out; omega
              case rel => exact ⟨(wrap64 (x5_3 + 1)), (by first | rfl | (simp; done) | (simp [*]; done)), H', ⟨by have := HJ2.out; have := HK2.out; have := HK3.out; omega⟩, ⟨by (with_reducible repeat (first | refine blk_drewN ?_ _ | refine blk_drew ?_ | refine blk_alloc ?_ _)); exact BK181.out⟩, ⟨by repeat (first | (with_reducible first | exact HB.out | apply below_alloc | apply pw_below_drewN | apply below_drew1 | refine below_set ?_ GE181.out) | exact HB.out)⟩⟩
             ·rw [if_neg c58] at H
              have c58b0 : ((bt t177 x5_3) == 46) = false := beq_eq_false_iff_ne.mpr c58
              have c58b1 : ((bt t177 x5_3) != 46) = true := bne_iff_ne.mpr c58
              by_cases c60 : (bt t177 x5_3) = 43
              ·rw [if_pos c60] at H
               have c60b0 : ((bt t177 x5_3) == 43) = true := beq_iff_eq.mpr c60
               have c60b1 : ((bt t177 x5_3) != 43) = false := bne_eq_false_iff_eq.mpr c60
               clear c60
               have H' := Aside0.mk H
               clear H
               have hcz61_0 : wr.cell? ⟨gb181, 0, none⟩ = some (.string t176) := (blk_cell BK181.out 0).trans rfl
               have hcz61_1 : wr.cell? ⟨gb181, 1, none⟩ = some (.string t177) := (blk_cell BK181.out 1).trans rfl
               have hcz61_2 : wr.cell? ⟨gb181, 2, none⟩ = some (.string t178) := (blk_cell BK181.out 2).trans rfl
               have hcz61_3 : wr.cell? ⟨gb181, 3, none⟩ = some (.bool t179) := (blk_cell BK181.out 3).trans rfl
               have hcz61_4 : wr.cell? ⟨gb181, 4, none⟩ = some (.bool t180) := (blk_cell BK181.out 4).trans rfl
               have hfz61_0 := blk_frozen BK181.out 0
               have hfz61_1 := blk_frozen BK181.out 1
               have hfz61_2 := blk_frozen BK181.out 2
               have hfz61_3 := blk_frozen BK181.out 3
               have hfz61_4 := blk_frozen BK181.out 4
               have p51 : 0 ≤ (x5_3 : Int) := of_decide_eq_true (by first | (with_reducible assumption) | assumption)
               have q51 : x5_3 < (t177.size : Int) := of_decide_eq_true (by first | (with_reducible assumption) | assumption)
               have hx51 := bt_at t177 x5_3
               replace p51 := eq_true p51
               replace q51 := eq_true q51
               go_wp2_with (first | ((with_reducible refine gate_callee (f := 75) rfl ?_); refine goesL_ (some 64) rfl rfl Tryd.func75 (by kernel_rfl) rfl #[.int .u8 (bt t177 x5_3)] rfl (by (try simp only [List.map_toArray, List.map_cons, List.map_nil]); first | done | rfl | (simp only [List.length_drop, List.length_take]; rfl) | (simp; done)) ?_; (with_reducible refine (depotref20_letter.calls (bt t177 x5_3) false _ A52.out).mono ?_); rintro e w' ⟨rfl, ⟨nd, rfl⟩⟩; refine ⟨_, rfl, ?_⟩) | (go_at_call 74; (with_reducible refine (depotref20_digit.calls (bt t177 x5_3) false _ A55.out).mono ?_); rintro e w' ⟨rfl, ⟨nd, rfl⟩⟩))
               go_roundg k3
               case measure => have := HJ2.out; have := HK2.out; have := HK3.out; omega
               case rel => exact ⟨(wrap64 (x5_3 + 1)), (by first | rfl | (simp; done) | (simp [*]; done)), H', ⟨by have := HJ2.out; have := HK2.out; have := HK3.out; omega⟩, ⟨by (with_reducible repeat (first | refine blk_drewN ?_ _ | refine blk_drew ?_ | refine blk_alloc ?_ _)); exact BK181.out⟩, ⟨by repeat (first | (with_reducible first | exact HB.out | apply below_alloc | apply pw_below_drewN | apply below_drew1 | refine below_set ?_ GE181.out) | exact HB.out)⟩⟩
              ·rw [if_neg c60] at H
               have c60b0 : ((bt t177 x5_3) == 43) = false := beq_eq_false_iff_ne.mpr c60
               have c60b1 : ((bt t177 x5_3) != 43) = true := bne_iff_ne.mpr c60
               by_cases c62 : (bt t177 x5_3) = 45
               ·rw [if_pos c62] at H
                have c62b0 : ((bt t177 x5_3) == 45) = true := beq_iff_eq.mpr c62
                have c62b1 : ((bt t177 x5_3) != 45) = false := bne_eq_false_iff_eq.mpr c62
                clear c62
                have H' := Aside0.mk H
                clear H
                have hcz63_0 : wr.cell? ⟨gb181, 0, none⟩ = some (.string t176) := (blk_cell BK181.out 0).trans rfl
                have hcz63_1 : wr.cell? ⟨gb181, 1, none⟩ = some (.string t177) := (blk_cell BK181.out 1).trans rfl
                have hcz63_2 : wr.cell? ⟨gb181, 2, none⟩ = some (.string t178) := (blk_cell BK181.out 2).trans rfl
                have hcz63_3 : wr.cell? ⟨gb181, 3, none⟩ = some (.bool t179) := (blk_cell BK181.out 3).trans rfl
                have hcz63_4 : wr.cell? ⟨gb181, 4, none⟩ = some (.bool t180) := (blk_cell BK181.out 4).trans rfl
                have hfz63_0 := blk_frozen BK181.out 0
                have hfz63_1 := blk_frozen BK181.out 1
                have hfz63_2 := blk_frozen BK181.out 2
                have hfz63_3 := blk_frozen BK181.out 3
                have hfz63_4 := blk_frozen BK181.out 4
                have p51 : 0 ≤ (x5_3 : Int) := of_decide_eq_true (by first | (with_reducible assumption) | assumption)
                have q51 : x5_3 < (t177.size : Int) := of_decide_eq_true (by first | (with_reducible assumption) | assumption)
                have hx51 := bt_at t177 x5_3
                replace p51 := eq_true p51
                replace q51 := eq_true q51
                go_wp2_with (first | ((with_reducible refine gate_callee (f := 75) rfl ?_); refine goesL_ (some 64) rfl rfl Tryd.func75 (by kernel_rfl) rfl #[.int .u8 (bt t177 x5_3)] rfl (by (try simp only [List.map_toArray, List.map_cons, List.map_nil]); first | done | rfl | (simp only [List.length_drop, List.length_take]; rfl) | (simp; done)) ?_; (with_reducible refine (depotref20_letter.calls (bt t177 x5_3) false _ A52.out).mono ?_); rintro e w' ⟨rfl, ⟨nd, rfl⟩⟩; refine ⟨_, rfl, ?_⟩) | (go_at_call 74; (with_reducible refine (depotref20_digit.calls (bt t177 x5_3) false _ A55.out).mono ?_); rintro e w' ⟨rfl, ⟨nd, rfl⟩⟩))
                go_roundg k3
                case measure => have := HJ2.out; have := HK2.out; have := HK3.out; omega
                case rel => exact ⟨(wrap64 (x5_3 + 1)), (by first | rfl | (simp; done) | (simp [*]; done)), H', ⟨by have := HJ2.out; have := HK2.out; have := HK3.out; omega⟩, ⟨by (with_reducible repeat (first | refine blk_drewN ?_ _ | refine blk_drew ?_ | refine blk_alloc ?_ _)); exact BK181.out⟩, ⟨by repeat (first | (with_reducible first | exact HB.out | apply below_alloc | apply pw_below_drewN | apply below_drew1 | refine below_set ?_ GE181.out) | exact HB.out)⟩⟩
               ·rw [if_neg c62] at H
                have c62b0 : ((bt t177 x5_3) == 45) = false := beq_eq_false_iff_ne.mpr c62
                have c62b1 : ((bt t177 x5_3) != 45) = true := bne_iff_ne.mpr c62
                by_cases c64 : (bt t177 x5_3) = 126
                ·rw [if_pos c64] at H
                 have c64b0 : ((bt t177 x5_3) == 126) = true := beq_iff_eq.mpr c64
                 have c64b1 : ((bt t177 x5_3) != 126) = false := bne_eq_false_iff_eq.mpr c64
                 clear c64
                 have H' := Aside0.mk H
                 clear H
                 have hcz65_0 : wr.cell? ⟨gb181, 0, none⟩ = some (.string t176) := (blk_cell BK181.out 0).trans rfl
                 have hcz65_1 : wr.cell? ⟨gb181, 1, none⟩ = some (.string t177) := (blk_cell BK181.out 1).trans rfl
                 have hcz65_2 : wr.cell? ⟨gb181, 2, none⟩ = some (.string t178) := (blk_cell BK181.out 2).trans rfl
                 have hcz65_3 : wr.cell? ⟨gb181, 3, none⟩ = some (.bool t179) := (blk_cell BK181.out 3).trans rfl
                 have hcz65_4 : wr.cell? ⟨gb181, 4, none⟩ = some (.bool t180) := (blk_cell BK181.out 4).trans rfl
                 have hfz65_0 := blk_frozen BK181.out 0
                 have hfz65_1 := blk_frozen BK181.out 1
                 have hfz65_2 := blk_frozen BK181.out 2
                 have hfz65_3 := blk_frozen BK181.out 3
                 have hfz65_4 := blk_frozen BK181.out 4
                 have p51 : 0 ≤ (x5_3 : Int) := of_decide_eq_true (by first | (with_reducible assumption) | assumption)
                 have q51 : x5_3 < (t177.size : Int) := of_decide_eq_true (by first | (with_reducible assumption) | assumption)
                 have hx51 := bt_at t177 x5_3
                 replace p51 := eq_true p51
                 replace q51 := eq_true q51
                 go_wp2_with (first | ((with_reducible refine gate_callee (f := 75) rfl ?_); refine goesL_ (some 64) rfl rfl Tryd.func75 (by kernel_rfl) rfl #[.int .u8 (bt t177 x5_3)] rfl (by (try simp only [List.map_toArray, List.map_cons, List.map_nil]); first | done | rfl | (simp only [List.length_drop, List.length_take]; rfl) | (simp; done)) ?_; (with_reducible refine (depotref20_letter.calls (bt t177 x5_3) false _ A52.out).mono ?_); rintro e w' ⟨rfl, ⟨nd, rfl⟩⟩; refine ⟨_, rfl, ?_⟩) | (go_at_call 74; (with_reducible refine (depotref20_digit.calls (bt t177 x5_3) false _ A55.out).mono ?_); rintro e w' ⟨rfl, ⟨nd, rfl⟩⟩))
                 go_roundg k3
                 case measure => have := HJ2.out; have := HK2.out; have := HK3.out; omega
                 case rel => exact ⟨(wrap64 (x5_3 + 1)), (by first | rfl | (simp; done) | (simp [*]; done)), H', ⟨by have := HJ2.out; have := HK2.out; have := HK3.out; omega⟩, ⟨by (with_reducible repeat (first | refine blk_drewN ?_ _ | refine blk_drew ?_ | refine blk_alloc ?_ _)); exact BK181.out⟩, ⟨by repeat (first | (with_reducible first | exact HB.out | apply below_alloc | apply pw_below_drewN | apply below_drew1 | refine below_set ?_ GE181.out) | exact HB.out)⟩⟩
                ·rw [if_neg c64] at H
                 have c64b0 : ((bt t177 x5_3) == 126) = false := beq_eq_false_iff_ne.mpr c64
                 have c64b1 : ((bt t177 x5_3) != 126) = true := bne_iff_ne.mpr c64
                 by_cases c66 : (bt t177 x5_3) = 58
                 ·rw [if_pos c66] at H
                  have c66b0 : ((bt t177 x5_3) == 58) = true := beq_iff_eq.mpr c66
                  have c66b1 : ((bt t177 x5_3) != 58) = false := bne_eq_false_iff_eq.mpr c66
                  clear c66
                  by_cases c67 : t179 = true
                  ·subst c67
                   have H1 : (depotref20_Legal.l1 k3 (wrap64 (x5_3 + 1)) t176 t177 t178 true t180) = some r := by rw [if_pos rfl] at H; exact H
                   clear H
                   have H := H1
                   clear H1
                   have H' := Aside0.mk H
                   clear H
                   have hcz68_0 : wr.cell? ⟨gb181, 0, none⟩ = some (.string t176) := (blk_cell BK181.out 0).trans rfl
                   have hcz68_1 : wr.cell? ⟨gb181, 1, none⟩ = some (.string t177) := (blk_cell BK181.out 1).trans rfl
                   have hcz68_2 : wr.cell? ⟨gb181, 2, none⟩ = some (.string t178) := (blk_cell BK181.out 2).trans rfl
                   have hcz68_3 : wr.cell? ⟨gb181, 3, none⟩ = some (.bool true) := (blk_cell BK181.out 3).trans rfl
                   have hcz68_4 : wr.cell? ⟨gb181, 4, none⟩ = some (.bool t180) := (blk_cell BK181.out 4).trans rfl
                   have hfz68_0 := blk_frozen BK181.out 0
                   have hfz68_1 := blk_frozen BK181.out 1
                   have hfz68_2 := blk_frozen BK181.out 2
                   have hfz68_3 := blk_frozen BK181.out 3
                   have hfz68_4 := blk_frozen BK181.out 4
                   have p51 : 0 ≤ (x5_3 : Int) := of_decide_eq_true (by first | (with_reducible assumption) | assumption)
                   have q51 : x5_3 < (t177.size : Int) := of_decide_eq_true (by first | (with_reducible assumption) | assumption)
                   have hx51 := bt_at t177 x5_3
                   replace p51 := eq_true p51
                   replace q51 := eq_true q51
                   go_wp2_with (first | ((with_reducible refine gate_callee (f := 75) rfl ?_); refine goesL_ (some 64) rfl rfl Tryd.func75 (by kernel_rfl) rfl #[.int .u8 (bt t177 x5_3)] rfl (by (try simp only [List.map_toArray, List.map_cons, List.map_nil]); first | done | rfl | (simp only [List.length_drop, List.length_take]; rfl) | (simp; done)) ?_; (with_reducible refine (depotref20_letter.calls (bt t177 x5_3) false _ A52.out).mono ?_); rintro e w' ⟨rfl, ⟨nd, rfl⟩⟩; refine ⟨_, rfl, ?_⟩) | (go_at_call 74; (with_reducible refine (depotref20_digit.calls (bt t177 x5_3) false _ A55.out).mono ?_); rintro e w' ⟨rfl, ⟨nd, rfl⟩⟩))
                   go_roundg k3
                   case measure => have := HJ2.out; have := HK2.out; have := HK3.out; omega
                   case rel => exact ⟨(wrap64 (x5_3 + 1)), (by first | rfl | (simp; done) | (simp [*]; done)), H', ⟨by have := HJ2.out; have := HK2.out; have := HK3.out; omega⟩, ⟨by (with_reducible repeat (first | refine blk_drewN ?_ _ | refine blk_drew ?_ | refine blk_alloc ?_ _)); exact BK181.out⟩, ⟨by repeat (first | (with_reducible first | exact HB.out | apply below_alloc | apply pw_below_drewN | apply below_drew1 | refine below_set ?_ GE181.out) | exact HB.out)⟩⟩
                  ·replace c67 := Bool.eq_false_iff.mpr c67
                   subst c67
                   have H1 : (some false) = some r := by rw [if_neg (show ¬ (false = true) by decide)] at H; exact H
                   clear H
                   have H := H1
                   clear H1
                   obtain rfl := Option.some.inj H
                   have hcz69_0 : wr.cell? ⟨gb181, 0, none⟩ = some (.string t176) := (blk_cell BK181.out 0).trans rfl
                   have hcz69_1 : wr.cell? ⟨gb181, 1, none⟩ = some (.string t177) := (blk_cell BK181.out 1).trans rfl
                   have hcz69_2 : wr.cell? ⟨gb181, 2, none⟩ = some (.string t178) := (blk_cell BK181.out 2).trans rfl
                   have hcz69_3 : wr.cell? ⟨gb181, 3, none⟩ = some (.bool false) := (blk_cell BK181.out 3).trans rfl
                   have hcz69_4 : wr.cell? ⟨gb181, 4, none⟩ = some (.bool t180) := (blk_cell BK181.out 4).trans rfl
                   have hfz69_0 := blk_frozen BK181.out 0
                   have hfz69_1 := blk_frozen BK181.out 1
                   have hfz69_2 := blk_frozen BK181.out 2
                   have hfz69_3 := blk_frozen BK181.out 3
                   have hfz69_4 := blk_frozen BK181.out 4
                   have p51 : 0 ≤ (x5_3 : Int) := of_decide_eq_true (by first | (with_reducible assumption) | assumption)
                   have q51 : x5_3 < (t177.size : Int) := of_decide_eq_true (by first | (with_reducible assumption) | assumption)
                   have hx51 := bt_at t177 x5_3
                   replace p51 := eq_true p51
                   replace q51 := eq_true q51
                   go_wp2_with (first | ((with_reducible refine gate_callee (f := 75) rfl ?_); refine goesL_ (some 64) rfl rfl Tryd.func75 (by kernel_rfl) rfl #[.int .u8 (bt t177 x5_3)] rfl (by (try simp only [List.map_toArray, List.map_cons, List.map_nil]); first | done | rfl | (simp only [List.length_drop, List.length_take]; rfl) | (simp; done)) ?_; (with_reducible refine (depotref20_letter.calls (bt t177 x5_3) false _ A52.out).mono ?_); rintro e w' ⟨rfl, ⟨nd, rfl⟩⟩; refine ⟨_, rfl, ?_⟩) | (go_at_call 74; (with_reducible refine (depotref20_digit.calls (bt t177 x5_3) false _ A55.out).mono ?_); rintro e w' ⟨rfl, ⟨nd, rfl⟩⟩))
                   go_ret
                   exact ⟨by first | rfl | (simp [errW_none, errW_some] <;> rfl) | (simp [*, errW_none, errW_some] <;> rfl) | (simp [errW_none, errW_some, Go.Proofs.YtmocooihkobdjaaDoor.listNe]; done), by repeat (first | (with_reducible first | exact HB.out | apply below_alloc | apply pw_below_drewN | apply below_drew1 | refine below_set ?_ GE181.out) | exact HB.out)⟩
                 ·rw [if_neg c66] at H
                  have c66b0 : ((bt t177 x5_3) == 58) = false := beq_eq_false_iff_ne.mpr c66
                  have c66b1 : ((bt t177 x5_3) != 58) = true := bne_iff_ne.mpr c66
                  obtain rfl := Option.some.inj H
                  have hcz70_0 : wr.cell? ⟨gb181, 0, none⟩ = some (.string t176) := (blk_cell BK181.out 0).trans rfl
                  have hcz70_1 : wr.cell? ⟨gb181, 1, none⟩ = some (.string t177) := (blk_cell BK181.out 1).trans rfl
                  have hcz70_2 : wr.cell? ⟨gb181, 2, none⟩ = some (.string t178) := (blk_cell BK181.out 2).trans rfl
                  have hcz70_3 : wr.cell? ⟨gb181, 3, none⟩ = some (.bool t179) := (blk_cell BK181.out 3).trans rfl
                  have hcz70_4 : wr.cell? ⟨gb181, 4, none⟩ = some (.bool t180) := (blk_cell BK181.out 4).trans rfl
                  have hfz70_0 := blk_frozen BK181.out 0
                  have hfz70_1 := blk_frozen BK181.out 1
                  have hfz70_2 := blk_frozen BK181.out 2
                  have hfz70_3 := blk_frozen BK181.out 3
                  have hfz70_4 := blk_frozen BK181.out 4
                  have p51 : 0 ≤ (x5_3 : Int) := of_decide_eq_true (by first | (with_reducible assumption) | assumption)
                  have q51 : x5_3 < (t177.size : Int) := of_decide_eq_true (by first | (with_reducible assumption) | assumption)
                  have hx51 := bt_at t177 x5_3
                  replace p51 := eq_true p51
                  replace q51 := eq_true q51
                  go_wp2_with (first | ((with_reducible refine gate_callee (f := 75) rfl ?_); refine goesL_ (some 64) rfl rfl Tryd.func75 (by kernel_rfl) rfl #[.int .u8 (bt t177 x5_3)] rfl (by (try simp only [List.map_toArray, List.map_cons, List.map_nil]); first | done | rfl | (simp only [List.length_drop, List.length_take]; rfl) | (simp; done)) ?_; (with_reducible refine (depotref20_letter.calls (bt t177 x5_3) false _ A52.out).mono ?_); rintro e w' ⟨rfl, ⟨nd, rfl⟩⟩; refine ⟨_, rfl, ?_⟩) | (go_at_call 74; (with_reducible refine (depotref20_digit.calls (bt t177 x5_3) false _ A55.out).mono ?_); rintro e w' ⟨rfl, ⟨nd, rfl⟩⟩))
                  go_ret
                  exact ⟨by first | rfl | (simp [errW_none, errW_some] <;> rfl) | (simp [*, errW_none, errW_some] <;> rfl) | (simp [errW_none, errW_some, Go.Proofs.YtmocooihkobdjaaDoor.listNe]; done), by repeat (first | (with_reducible first | exact HB.out | apply below_alloc | apply pw_below_drewN | apply below_drew1 | refine below_set ?_ GE181.out) | exact HB.out)⟩
          ·rw [if_neg c50] at H
           exact absurd H (by simp)
         ·rw [if_neg c49] at H
          have c49b0 : decide (x5_3 < (t177.size : Int)) = false := decide_eq_false c49
          clear c49
          have H' := Aside0.mk H
          clear H
          have hcz71_0 : wr.cell? ⟨gb181, 0, none⟩ = some (.string t176) := (blk_cell BK181.out 0).trans rfl
          have hcz71_1 : wr.cell? ⟨gb181, 1, none⟩ = some (.string t177) := (blk_cell BK181.out 1).trans rfl
          have hcz71_2 : wr.cell? ⟨gb181, 2, none⟩ = some (.string t178) := (blk_cell BK181.out 2).trans rfl
          have hcz71_3 : wr.cell? ⟨gb181, 3, none⟩ = some (.bool t179) := (blk_cell BK181.out 3).trans rfl
          have hcz71_4 : wr.cell? ⟨gb181, 4, none⟩ = some (.bool t180) := (blk_cell BK181.out 4).trans rfl
          have hfz71_0 := blk_frozen BK181.out 0
          have hfz71_1 := blk_frozen BK181.out 1
          have hfz71_2 := blk_frozen BK181.out 2
          have hfz71_3 := blk_frozen BK181.out 3
          have hfz71_4 := blk_frozen BK181.out 4
          go_wp2
          go_loopg [7] k3 (fun kq v7 w' => ∃ (x7_4 : Int), v7 = .int .i64 x7_4 ∧ Aside0 (depotref20_Legal.l2 kq x7_4 t176 t177 t178 t179 t180 = some r) ∧ Aside0 (kq ≤ k3) ∧ Aside0 (w'.heap[gb181]? = some (.cells #[.string t176, .string t177, .string t178, .bool t179, .bool t180] 112 (0, 0))) ∧ Aside0 (Below w.heap.size w w'))
          case atStart => exact ⟨(0), (by first | rfl | (simp; done) | (simp [*]; done)), H', ⟨Nat.le_refl _⟩, ⟨by (with_reducible repeat (first | refine blk_drewN ?_ _ | refine blk_drew ?_ | refine blk_alloc ?_ _)); exact BK181.out⟩, ⟨by repeat (first | (with_reducible first | exact HB.out | apply below_alloc | apply pw_below_drewN | apply below_drew1 | refine below_set ?_ GE181.out) | exact HB.out)⟩⟩
          case round =>
           clear H'
           try clear c1
           try clear p1
           try clear q1
           try clear hx1
           try clear qi1
           try clear c2
           try clear p2
           try clear q2
           try clear hx2
           try clear qi2
           try clear c3
           try clear p3
           try clear q3
           try clear hx3
           try clear qi3
           try clear c4
           try clear p4
           try clear q4
           try clear hx4
           try clear c5
           try clear p5
           try clear q5
           try clear hx5
           try clear c6
           try clear p6
           try clear c7
           try clear c8
           try clear c8b0
           try clear c8b1
           try clear c10
           try clear c11
           try clear c11b0
           try clear c11b1
           try clear c13
           try clear c13b0
           try clear c13b1
           try clear c15
           try clear c15b0
           try clear c15b1
           try clear p16
           try clear q16
           try clear hx16
           try clear qi16
           try clear c19
           try clear c19b0
           try clear c19b1
           try clear c21
           try clear c21b0
           try clear c21b1
           try clear p22
           try clear q22
           try clear hx22
           try clear qi22
           try clear c25
           try clear c26
           try clear c26b0
           try clear c26b1
           try clear c28
           try clear c28b0
           try clear c28b1
           try clear c30
           try clear c30b0
           try clear c30b1
           try clear p31
           try clear q31
           try clear hx31
           try clear qi31
           try clear c34
           try clear c34b0
           try clear c34b1
           try clear c36
           try clear c36b0
           try clear c36b1
           try clear p37
           try clear q37
           try clear hx37
           try clear qi37
           try clear c40
           try clear c41
           try clear c41b0
           try clear c42
           try clear c42b0
           try clear p43
           try clear q43
           try clear hx43
           try clear c45
           try clear c49
           try clear c49b0
           try clear c50
           try clear c50b0
           try clear p51
           try clear q51
           try clear hx51
           try clear c53
           try clear c56
           try clear c58
           try clear c58b0
           try clear c58b1
           try clear c60
           try clear c60b0
           try clear c60b1
           try clear c62
           try clear c62b0
           try clear c62b1
           try clear c64
           try clear c64b0
           try clear c64b1
           try clear p64
           try clear c66
           try clear c66b0
           try clear c66b1
           try clear c67
           try clear hcz12_0
           try clear hcz12_1
           try clear hcz12_2
           try clear hcz12_3
           try clear hcz12_4
           try clear hcz14_0
           try clear hcz14_1
           try clear hcz14_2
           try clear hcz14_3
           try clear hcz14_4
           try clear hcz18_0
           try clear hcz18_1
           try clear hcz18_2
           try clear hcz18_3
           try clear hcz18_4
           try clear hcz20_0
           try clear hcz20_1
           try clear hcz20_2
           try clear hcz20_3
           try clear hcz20_4
           try clear hcz24_0
           try clear hcz24_1
           try clear hcz24_2
           try clear hcz24_3
           try clear hcz24_4
           try clear hcz27_0
           try clear hcz27_1
           try clear hcz27_2
           try clear hcz27_3
           try clear hcz27_4
           try clear hcz29_0
           try clear hcz29_1
           try clear hcz29_2
           try clear hcz29_3
           try clear hcz29_4
           try clear hcz33_0
           try clear hcz33_1
           try clear hcz33_2
           try clear hcz33_3
           try clear hcz33_4
           try clear hcz35_0
           try clear hcz35_1
           try clear hcz35_2
           try clear hcz35_3
           try clear hcz35_4
           try clear hcz39_0
           try clear hcz39_1
           try clear hcz39_2
           try clear hcz39_3
           try clear hcz39_4
           try clear hcz46_0
           try clear hcz46_1
           try clear hcz46_2
           try clear hcz46_3
           try clear hcz46_4
           try clear hcz47_0
           try clear hcz47_1
           try clear hcz47_2
           try clear hcz47_3
           try clear hcz47_4
           try clear hcz48_0
           try clear hcz48_1
           try clear hcz48_2
           try clear hcz48_3
           try clear hcz48_4
           try clear hcz54_0
           try clear hcz54_1
           try clear hcz54_2
           try clear hcz54_3
           try clear hcz54_4
           try clear hcz57_0
           try clear hcz57_1
           try clear hcz57_2
           try clear hcz57_3
           try clear hcz57_4
           try clear hcz59_0
           try clear hcz59_1
           try clear hcz59_2
           try clear hcz59_3
           try clear hcz59_4
           try clear hcz61_0
           try clear hcz61_1
           try clear hcz61_2
           try clear hcz61_3
           try clear hcz61_4
           try clear hcz63_0
           try clear hcz63_1
           try clear hcz63_2
           try clear hcz63_3
           try clear hcz63_4
           try clear hcz65_0
           try clear hcz65_1
           try clear hcz65_2
           try clear hcz65_3
           try clear hcz65_4
           try clear hcz68_0
           try clear hcz68_1
           try clear hcz68_2
           try clear hcz68_3
           try clear hcz68_4
           try clear hcz69_0
           try clear hcz69_1
           try clear hcz69_2
           try clear hcz69_3
           try clear hcz69_4
           try clear hcz6_0
           try clear hcz6_1
           try clear hcz6_2
           try clear hcz6_3
           try clear hcz6_4
           try clear hcz70_0
           try clear hcz70_1
           try clear hcz70_2
           try clear hcz70_3
           try clear hcz70_4
           try clear hcz71_0
           try clear hcz71_1
           try clear hcz71_2
           try clear hcz71_3
           try clear hcz71_4
           try clear hcz9_0
           try clear hcz9_1
           try clear hcz9_2
           try clear hcz9_3
           try clear hcz9_4
           try clear hfz12_0
           try clear hfz12_1
           try clear hfz12_2
           try clear hfz12_3
           try clear hfz12_4
           try clear hfz14_0
           try clear hfz14_1
           try clear hfz14_2
           try clear hfz14_3
           try clear hfz14_4
           try clear hfz18_0
           try clear hfz18_1
           try clear hfz18_2
           try clear hfz18_3
           try clear hfz18_4
           try clear hfz20_0
           try clear hfz20_1
           try clear hfz20_2
           try clear hfz20_3
           try clear hfz20_4
           try clear hfz24_0
           try clear hfz24_1
           try clear hfz24_2
           try clear hfz24_3
           try clear hfz24_4
           try clear hfz27_0
           try clear hfz27_1
           try clear hfz27_2
           try clear hfz27_3
           try clear hfz27_4
           try clear hfz29_0
           try clear hfz29_1
           try clear hfz29_2
           try clear hfz29_3
           try clear hfz29_4
           try clear hfz33_0
           try clear hfz33_1
           try clear hfz33_2
           try clear hfz33_3
           try clear hfz33_4
           try clear hfz35_0
           try clear hfz35_1
           try clear hfz35_2
           try clear hfz35_3
           try clear hfz35_4
           try clear hfz39_0
           try clear hfz39_1
           try clear hfz39_2
           try clear hfz39_3
           try clear hfz39_4
           try clear hfz46_0
           try clear hfz46_1
           try clear hfz46_2
           try clear hfz46_3
           try clear hfz46_4
           try clear hfz47_0
           try clear hfz47_1
           try clear hfz47_2
           try clear hfz47_3
           try clear hfz47_4
           try clear hfz48_0
           try clear hfz48_1
           try clear hfz48_2
           try clear hfz48_3
           try clear hfz48_4
           try clear hfz54_0
           try clear hfz54_1
           try clear hfz54_2
           try clear hfz54_3
           try clear hfz54_4
           try clear hfz57_0
           try clear hfz57_1
           try clear hfz57_2
           try clear hfz57_3
           try clear hfz57_4
           try clear hfz59_0
           try clear hfz59_1
           try clear hfz59_2
           try clear hfz59_3
           try clear hfz59_4
           try clear hfz61_0
           try clear hfz61_1
           try clear hfz61_2
           try clear hfz61_3
           try clear hfz61_4
           try clear hfz63_0
           try clear hfz63_1
           try clear hfz63_2
           try clear hfz63_3
           try clear hfz63_4
           try clear hfz65_0
           try clear hfz65_1
           try clear hfz65_2
           try clear hfz65_3
           try clear hfz65_4
           try clear hfz68_0
           try clear hfz68_1
           try clear hfz68_2
           try clear hfz68_3
           try clear hfz68_4
           try clear hfz69_0
           try clear hfz69_1
           try clear hfz69_2
           try clear hfz69_3
           try clear hfz69_4
           try clear hfz6_0
           try clear hfz6_1
           try clear hfz6_2
           try clear hfz6_3
           try clear hfz6_4
           try clear hfz70_0
           try clear hfz70_1
           try clear hfz70_2
           try clear hfz70_3
           try clear hfz70_4
           try clear hfz71_0
           try clear hfz71_1
           try clear hfz71_2
           try clear hfz71_3
           try clear hfz71_4
           try clear hfz9_0
           try clear hfz9_1
           try clear hfz9_2
           try clear hfz9_3
           try clear hfz9_4
           try clear p1
           try clear p16
           try clear p2
           try clear p22
           try clear p3
           try clear p31
           try clear p37
           try clear p4
           try clear p43
           try clear p51
           try clear p6
           try clear q1
           try clear q16
           try clear q2
           try clear q22
           try clear q3
           try clear q31
           try clear q37
           try clear q4
           try clear q43
           try clear q51
           obtain ⟨x7_4, rfl, HA, HK4, BK181, HB⟩ := hrel
           cases gk with
           | zero => exact absurd HA.out (by simp [depotref20_Legal.l2])
           | succ k4 =>
            have H := HA.out
            clear HA
            simp only [depotref20_Legal.l2] at H
            by_cases c72 : x7_4 < (t178.size : Int)
            ·rw [if_pos c72] at H
             have c72b0 : decide (x7_4 < (t178.size : Int)) = true := decide_eq_true c72
             clear c72
             by_cases c73 : 0 ≤ x7_4
             ·rw [if_pos c73] at H
              have c73b0 : decide (0 ≤ x7_4) = true := decide_eq_true c73
              clear c73
              replace H := Option.bind_eq_some_iff.mp H
              obtain ⟨t189, A750, H⟩ := H
              replace H : (if t189 = true then (depotref20_Legal.l2 k4 (wrap64 (x7_4 + 1)) t176 t177 t178 t179 t180) else ((depotref20_digit.f (bt t178 x7_4)).bind fun t190 => (if t190 = true then (depotref20_Legal.l2 k4 (wrap64 (x7_4 + 1)) t176 t177 t178 t179 t180) else (if (bt t178 x7_4) = 46 then (depotref20_Legal.l2 k4 (wrap64 (x7_4 + 1)) t176 t177 t178 t179 t180) else (if (bt t178 x7_4) = 43 then (depotref20_Legal.l2 k4 (wrap64 (x7_4 + 1)) t176 t177 t178 t179 t180) else (if (bt t178 x7_4) = 126 then (depotref20_Legal.l2 k4 (wrap64 (x7_4 + 1)) t176 t177 t178 t179 t180) else (some false))))))) = some r := H
              have A75 := Aside0.mk A750
              clear A750
              by_cases c76 : t189 = true
              ·subst c76
               have H1 : (depotref20_Legal.l2 k4 (wrap64 (x7_4 + 1)) t176 t177 t178 t179 t180) = some r := by rw [if_pos rfl] at H; exact H
               clear H
               have H := H1
               clear H1
               have H' := Aside0.mk H
               clear H
               have hcz77_0 : wr.cell? ⟨gb181, 0, none⟩ = some (.string t176) := (blk_cell BK181.out 0).trans rfl
               have hcz77_1 : wr.cell? ⟨gb181, 1, none⟩ = some (.string t177) := (blk_cell BK181.out 1).trans rfl
               have hcz77_2 : wr.cell? ⟨gb181, 2, none⟩ = some (.string t178) := (blk_cell BK181.out 2).trans rfl
               have hcz77_3 : wr.cell? ⟨gb181, 3, none⟩ = some (.bool t179) := (blk_cell BK181.out 3).trans rfl
               have hcz77_4 : wr.cell? ⟨gb181, 4, none⟩ = some (.bool t180) := (blk_cell BK181.out 4).trans rfl
               have hfz77_0 := blk_frozen BK181.out 0
               have hfz77_1 := blk_frozen BK181.out 1
               have hfz77_2 := blk_frozen BK181.out 2
               have hfz77_3 := blk_frozen BK181.out 3
               have hfz77_4 := blk_frozen BK181.out 4
               have p74 : 0 ≤ (x7_4 : Int) := of_decide_eq_true (by first | (with_reducible assumption) | assumption)
               have q74 : x7_4 < (t178.size : Int) := of_decide_eq_true (by first | (with_reducible assumption) | assumption)
               have hx74 := bt_at t178 x7_4
               replace p74 := eq_true p74
               replace q74 := eq_true q74
               go_wp2_with (first | ((with_reducible refine gate_callee (f := 75) rfl ?_); refine goesL_ (some 108) rfl rfl Tryd.func75 (by kernel_rfl) rfl #[.int .u8 (bt t178 x7_4)] rfl (by (try simp only [List.map_toArray, List.map_cons, List.map_nil]); first | done | rfl | (simp only [List.length_drop, List.length_take]; rfl) | (simp; done)) ?_; (with_reducible refine (depotref20_letter.calls (bt t178 x7_4) true _ A75.out).mono ?_); rintro e w' ⟨rfl, ⟨nd, rfl⟩⟩; refine ⟨_, rfl, ?_⟩))
               go_roundg k4
               case measure => have := HJ2.out; have := HK2.out; have := HK3.out; have := HK4.out; omega
               case rel => exact ⟨(wrap64 (x7_4 + 1)), (by first | rfl | (simp; done) | (simp [*]; done)), H', ⟨by have := HJ2.out; have := HK2.out; have := HK3.out; have := HK4.out; omega⟩, ⟨by (with_reducible repeat (first | refine blk_drewN ?_ _ | refine blk_drew ?_ | refine blk_alloc ?_ _)); exact BK181.out⟩, ⟨by repeat (first | (with_reducible first | exact HB.out | apply below_alloc | apply pw_below_drewN | apply below_drew1 | refine below_set ?_ GE181.out) | exact HB.out)⟩⟩
              ·replace c76 := Bool.eq_false_iff.mpr c76
               subst c76
               have H1 : ((depotref20_digit.f (bt t178 x7_4)).bind fun t190 => (if t190 = true then (depotref20_Legal.l2 k4 (wrap64 (x7_4 + 1)) t176 t177 t178 t179 t180) else (if (bt t178 x7_4) = 46 then (depotref20_Legal.l2 k4 (wrap64 (x7_4 + 1)) t176 t177 t178 t179 t180) else (if (bt t178 x7_4) = 43 then (depotref20_Legal.l2 k4 (wrap64 (x7_4 + 1)) t176 t177 t178 t179 t180) else (if (bt t178 x7_4) = 126 then (depotref20_Legal.l2 k4 (wrap64 (x7_4 + 1)) t176 t177 t178 t179 t180) else (some false)))))) = some r := by rw [if_neg (show ¬ (false = true) by decide)] at H; exact H
               clear H
               have H := H1
               clear H1
               replace H := Option.bind_eq_some_iff.mp H
               obtain ⟨t190, A780, H⟩ := H
               replace H : (if t190 = true then (depotref20_Legal.l2 k4 (wrap64 (x7_4 + 1)) t176 t177 t178 t179 t180) else (if (bt t178 x7_4) = 46 then (depotref20_Legal.l2 k4 (wrap64 (x7_4 + 1)) t176 t177 t178 t179 t180) else (if (bt t178 x7_4) = 43 then (depotref20_Legal.l2 k4 (wrap64 (x7_4 + 1)) t176 t177 t178 t179 t180) else (if (bt t178 x7_4) = 126 then (depotref20_Legal.l2 k4 (wrap64 (x7_4 + 1)) t176 t177 t178 t179 t180) else (some false))))) = some r := H
               have A78 := Aside0.mk A780
               clear A780
               by_cases c79 : t190 = true
               ·subst c79
                have H1 : (depotref20_Legal.l2 k4 (wrap64 (x7_4 + 1)) t176 t177 t178 t179 t180) = some r := by rw [if_pos rfl] at H; exact H
                clear H
                have H := H1
                clear H1
                have H' := Aside0.mk H
                clear H
                have hcz80_0 : wr.cell? ⟨gb181, 0, none⟩ = some (.string t176) := (blk_cell BK181.out 0).trans rfl
                have hcz80_1 : wr.cell? ⟨gb181, 1, none⟩ = some (.string t177) := (blk_cell BK181.out 1).trans rfl
                have hcz80_2 : wr.cell? ⟨gb181, 2, none⟩ = some (.string t178) := (blk_cell BK181.out 2).trans rfl
                have hcz80_3 : wr.cell? ⟨gb181, 3, none⟩ = some (.bool t179) := (blk_cell BK181.out 3).trans rfl
                have hcz80_4 : wr.cell? ⟨gb181, 4, none⟩ = some (.bool t180) := (blk_cell BK181.out 4).trans rfl
                have hfz80_0 := blk_frozen BK181.out 0
                have hfz80_1 := blk_frozen BK181.out 1
                have hfz80_2 := blk_frozen BK181.out 2
                have hfz80_3 := blk_frozen BK181.out 3
                have hfz80_4 := blk_frozen BK181.out 4
                have p74 : 0 ≤ (x7_4 : Int) := of_decide_eq_true (by first | (with_reducible assumption) | assumption)
                have q74 : x7_4 < (t178.size : Int) := of_decide_eq_true (by first | (with_reducible assumption) | assumption)
                have hx74 := bt_at t178 x7_4
                replace p74 := eq_true p74
                replace q74 := eq_true q74
                go_wp2_with (first | ((with_reducible refine gate_callee (f := 75) rfl ?_); refine goesL_ (some 108) rfl rfl Tryd.func75 (by kernel_rfl) rfl #[.int .u8 (bt t178 x7_4)] rfl (by (try simp only [List.map_toArray, List.map_cons, List.map_nil]); first | done | rfl | (simp only [List.length_drop, List.length_take]; rfl) | (simp; done)) ?_; (with_reducible refine (depotref20_letter.calls (bt t178 x7_4) false _ A75.out).mono ?_); rintro e w' ⟨rfl, ⟨nd, rfl⟩⟩; refine ⟨_, rfl, ?_⟩) | (go_at_call 74; (with_reducible refine (depotref20_digit.calls (bt t178 x7_4) true _ A78.out).mono ?_); rintro e w' ⟨rfl, ⟨nd, rfl⟩⟩))
                go_roundg k4
                case measure => have := HJ2.out; have := HK2.out; have := HK3.out; have := HK4.out; omega
                case rel => exact ⟨(wrap64 (x7_4 + 1)), (by first | rfl | (simp; done) | (simp [*]; done)), H', ⟨by have := HJ2.out; have := HK2.out; have := HK3.out; have := HK4.out; omega⟩, ⟨by (with_reducible repeat (first | refine blk_drewN ?_ _ | refine blk_drew ?_ | refine blk_alloc ?_ _)); exact BK181.out⟩, ⟨by repeat (first | (with_reducible first | exact HB.out | apply below_alloc | apply pw_below_drewN | apply below_drew1 | refine below_set ?_ GE181.out) | exact HB.out)⟩⟩
               ·replace c79 := Bool.eq_false_iff.mpr c79
                subst c79
                have H1 : (if (bt t178 x7_4) = 46 then (depotref20_Legal.l2 k4 (wrap64 (x7_4 + 1)) t176 t177 t178 t179 t180) else (if (bt t178 x7_4) = 43 then (depotref20_Legal.l2 k4 (wrap64 (x7_4 + 1)) t176 t177 t178 t179 t180) else (if (bt t178 x7_4) = 126 then (depotref20_Legal.l2 k4 (wrap64 (x7_4 + 1)) t176 t177 t178 t179 t180) else (some false)))) = some r := by rw [if_neg (show ¬ (false = true) by decide)] at H; exact H
                clear H
                have H := H1
                clear H1
                by_cases c81 : (bt t178 x7_4) = 46
                ·rw [if_pos c81] at H
                 have c81b0 : ((bt t178 x7_4) == 46) = true := beq_iff_eq.mpr c81
                 have c81b1 : ((bt t178 x7_4) != 46) = false := bne_eq_false_iff_eq.mpr c81
                 clear c81
                 have H' := Aside0.mk H
                 clear H
                 have hcz82_0 : wr.cell? ⟨gb181, 0, none⟩ = some (.string t176) := (blk_cell BK181.out 0).trans rfl
                 have hcz82_1 : wr.cell? ⟨gb181, 1, none⟩ = some (.string t177) := (blk_cell BK181.out 1).trans rfl
                 have hcz82_2 : wr.cell? ⟨gb181, 2, none⟩ = some (.string t178) := (blk_cell BK181.out 2).trans rfl
                 have hcz82_3 : wr.cell? ⟨gb181, 3, none⟩ = some (.bool t179) := (blk_cell BK181.out 3).trans rfl
                 have hcz82_4 : wr.cell? ⟨gb181, 4, none⟩ = some (.bool t180) := (blk_cell BK181.out 4).trans rfl
                 have hfz82_0 := blk_frozen BK181.out 0
                 have hfz82_1 := blk_frozen BK181.out 1
                 have hfz82_2 := blk_frozen BK181.out 2
                 have hfz82_3 := blk_frozen BK181.out 3
                 have hfz82_4 := blk_frozen BK181.out 4
                 have p74 : 0 ≤ (x7_4 : Int) := of_decide_eq_true (by first | (with_reducible assumption) | assumption)
                 have q74 : x7_4 < (t178.size : Int) := of_decide_eq_true (by first | (with_reducible assumption) | assumption)
                 have hx74 := bt_at t178 x7_4
                 replace p74 := eq_true p74
                 replace q74 := eq_true q74
                 go_wp2_with (first | ((with_reducible refine gate_callee (f := 75) rfl ?_); refine goesL_ (some 108) rfl rfl Tryd.func75 (by kernel_rfl) rfl #[.int .u8 (bt t178 x7_4)] rfl (by (try simp only [List.map_toArray, List.map_cons, List.map_nil]); first | done | rfl | (simp only [List.length_drop, List.length_take]; rfl) | (simp; done)) ?_; (with_reducible refine (depotref20_letter.calls (bt t178 x7_4) false _ A75.out).mono ?_); rintro e w' ⟨rfl, ⟨nd, rfl⟩⟩; refine ⟨_, rfl, ?_⟩) | (go_at_call 74; (with_reducible refine (depotref20_digit.calls (bt t178 x7_4) false _ A78.out).mono ?_); rintro e w' ⟨rfl, ⟨nd, rfl⟩⟩))
                 go_roundg k4
                 case measure => have := HJ2.out; have := HK2.out; have := HK3.out; have := HK4.out; omega
                 case rel => exact ⟨(wrap64 (x7_4 + 1)), (by first | rfl | (simp; done) | (simp [*]; done)), H', ⟨by have := HJ2.out; have := HK2.out; have := HK3.out; have := HK4.out; omega⟩, ⟨by (with_reducible repeat (first | refine blk_drewN ?_ _ | refine blk_drew ?_ | refine blk_alloc ?_ _)); exact BK181.out⟩, ⟨by repeat (first | (with_reducible first | exact HB.out | apply below_alloc | apply pw_below_drewN | apply below_drew1 | refine below_set ?_ GE181.out) | exact HB.out)⟩⟩
                ·rw [if_neg c81] at H
                 have c81b0 : ((bt t178 x7_4) == 46) = false := beq_eq_false_iff_ne.mpr c81
                 have c81b1 : ((bt t178 x7_4) != 46) = true := bne_iff_ne.mpr c81
                 by_cases c83 : (bt t178 x7_4) = 43
                 ·rw [if_pos c83] at H
                  have c83b0 : ((bt t178 x7_4) == 43) = true := beq_iff_eq.mpr c83
                  have c83b1 : ((bt t178 x7_4) != 43) = false := bne_eq_false_iff_eq.mpr c83
                  clear c83
                  have H' := Aside0.mk H
                  clear H
                  have hcz84_0 : wr.cell? ⟨gb181, 0, none⟩ = some (.string t176) := (blk_cell BK181.out 0).trans rfl
                  have hcz84_1 : wr.cell? ⟨gb181, 1, none⟩ = some (.string t177) := (blk_cell BK181.out 1).trans rfl
                  have hcz84_2 : wr.cell? ⟨gb181, 2, none⟩ = some (.string t178) := (blk_cell BK181.out 2).trans rfl
                  have hcz84_3 : wr.cell? ⟨gb181, 3, none⟩ = some (.bool t179) := (blk_cell BK181.out 3).trans rfl
                  have hcz84_4 : wr.cell? ⟨gb181, 4, none⟩ = some (.bool t180) := (blk_cell BK181.out 4).trans rfl
                  have hfz84_0 := blk_frozen BK181.out 0
                  have hfz84_1 := blk_frozen BK181.out 1
                  have hfz84_2 := blk_frozen BK181.out 2
                  have hfz84_3 := blk_frozen BK181.out 3
                  have hfz84_4 := blk_frozen BK181.out 4
                  have p74 : 0 ≤ (x7_4 : Int) := of_decide_eq_true (by first | (with_reducible assumption) | assumption)
                  have q74 : x7_4 < (t178.size : Int) := of_decide_eq_true (by first | (with_reducible assumption) | assumption)
                  have hx74 := bt_at t178 x7_4
                  replace p74 := eq_true p74
                  replace q74 := eq_true q74
                  go_wp2_with (first | ((with_reducible refine gate_callee (f := 75) rfl ?_); refine goesL_ (some 108) rfl rfl Tryd.func75 (by kernel_rfl) rfl #[.int .u8 (bt t178 x7_4)] rfl (by (try simp only [List.map_toArray, List.map_cons, List.map_nil]); first | done | rfl | (simp only [List.length_drop, List.length_take]; rfl) | (simp; done)) ?_; (with_reducible refine (depotref20_letter.calls (bt t178 x7_4) false _ A75.out).mono ?_); rintro e w' ⟨rfl, ⟨nd, rfl⟩⟩; refine ⟨_, rfl, ?_⟩) | (go_at_call 74; (with_reducible refine (depotref20_digit.calls (bt t178 x7_4) false _ A78.out).mono ?_); rintro e w' ⟨rfl, ⟨nd, rfl⟩⟩))
                  go_roundg k4
                  case measure => have := HJ2.out; have := HK2.out; have := HK3.out; have := HK4.out; omega
                  case rel => exact ⟨(wrap64 (x7_4 + 1)), (by first | rfl | (simp; done) | (simp [*]; done)), H', ⟨by have := HJ2.out; have := HK2.out; have := HK3.out; have := HK4.out; omega⟩, ⟨by (with_reducible repeat (first | refine blk_drewN ?_ _ | refine blk_drew ?_ | refine blk_alloc ?_ _)); exact BK181.out⟩, ⟨by repeat (first | (with_reducible first | exact HB.out | apply below_alloc | apply pw_below_drewN | apply below_drew1 | refine below_set ?_ GE181.out) | exact HB.out)⟩⟩
                 ·rw [if_neg c83] at H
                  have c83b0 : ((bt t178 x7_4) == 43) = false := beq_eq_false_iff_ne.mpr c83
                  have c83b1 : ((bt t178 x7_4) != 43) = true := bne_iff_ne.mpr c83
                  by_cases c85 : (bt t178 x7_4) = 126
                  ·rw [if_pos c85] at H
                   have c85b0 : ((bt t178 x7_4) == 126) = true := beq_iff_eq.mpr c85
                   have c85b1 : ((bt t178 x7_4) != 126) = false := bne_eq_false_iff_eq.mpr c85
                   clear c85
                   have H' := Aside0.mk H
                   clear H
                   have hcz86_0 : wr.cell? ⟨gb181, 0, none⟩ = some (.string t176) := (blk_cell BK181.out 0).trans rfl
                   have hcz86_1 : wr.cell? ⟨gb181, 1, none⟩ = some (.string t177) := (blk_cell BK181.out 1).trans rfl
                   have hcz86_2 : wr.cell? ⟨gb181, 2, none⟩ = some (.string t178) := (blk_cell BK181.out 2).trans rfl
                   have hcz86_3 : wr.cell? ⟨gb181, 3, none⟩ = some (.bool t179) := (blk_cell BK181.out 3).trans rfl
                   have hcz86_4 : wr.cell? ⟨gb181, 4, none⟩ = some (.bool t180) := (blk_cell BK181.out 4).trans rfl
                   have hfz86_0 := blk_frozen BK181.out 0
                   have hfz86_1 := blk_frozen BK181.out 1
                   have hfz86_2 := blk_frozen BK181.out 2
                   have hfz86_3 := blk_frozen BK181.out 3
                   have hfz86_4 := blk_frozen BK181.out 4
                   have p74 : 0 ≤ (x7_4 : Int) := of_decide_eq_true (by first | (with_reducible assumption) | assumption)
                   have q74 : x7_4 < (t178.size : Int) := of_decide_eq_true (by first | (with_reducible assumption) | assumption)
                   have hx74 := bt_at t178 x7_4
                   replace p74 := eq_true p74
                   replace q74 := eq_true q74
                   go_wp2_with (first | ((with_reducible refine gate_callee (f := 75) rfl ?_); refine goesL_ (some 108) rfl rfl Tryd.func75 (by kernel_rfl) rfl #[.int .u8 (bt t178 x7_4)] rfl (by (try simp only [List.map_toArray, List.map_cons, List.map_nil]); first | done | rfl | (simp only [List.length_drop, List.length_take]; rfl) | (simp; done)) ?_; (with_reducible refine (depotref20_letter.calls (bt t178 x7_4) false _ A75.out).mono ?_); rintro e w' ⟨rfl, ⟨nd, rfl⟩⟩; refine ⟨_, rfl, ?_⟩) | (go_at_call 74; (with_reducible refine (depotref20_digit.calls (bt t178 x7_4) false _ A78.out).mono ?_); rintro e w' ⟨rfl, ⟨nd, rfl⟩⟩))
                   go_roundg k4
                   case measure => have := HJ2.out; have := HK2.out; have := HK3.out; have := HK4.out; omega
                   case rel => exact ⟨(wrap64 (x7_4 + 1)), (by first | rfl | (simp; done) | (simp [*]; done)), H', ⟨by have := HJ2.out; have := HK2.out; have := HK3.out; have := HK4.out; omega⟩, ⟨by (with_reducible repeat (first | refine blk_drewN ?_ _ | refine blk_drew ?_ | refine blk_alloc ?_ _)); exact BK181.out⟩, ⟨by repeat (first | (with_reducible first | exact HB.out | apply below_alloc | apply pw_below_drewN | apply below_drew1 | refine below_set ?_ GE181.out) | exact HB.out)⟩⟩
                  ·rw [if_neg c85] at H
                   have c85b0 : ((bt t178 x7_4) == 126) = false := beq_eq_false_iff_ne.mpr c85
                   have c85b1 : ((bt t178 x7_4) != 126) = true := bne_iff_ne.mpr c85
                   obtain rfl := Option.some.inj H
                   have hcz87_0 : wr.cell? ⟨gb181, 0, none⟩ = some (.string t176) := (blk_cell BK181.out 0).trans rfl
                   have hcz87_1 : wr.cell? ⟨gb181, 1, none⟩ = some (.string t177) := (blk_cell BK181.out 1).trans rfl
                   have hcz87_2 : wr.cell? ⟨gb181, 2, none⟩ = some (.string t178) := (blk_cell BK181.out 2).trans rfl
                   have hcz87_3 : wr.cell? ⟨gb181, 3, none⟩ = some (.bool t179) := (blk_cell BK181.out 3).trans rfl
                   have hcz87_4 : wr.cell? ⟨gb181, 4, none⟩ = some (.bool t180) := (blk_cell BK181.out 4).trans rfl
                   have hfz87_0 := blk_frozen BK181.out 0
                   have hfz87_1 := blk_frozen BK181.out 1
                   have hfz87_2 := blk_frozen BK181.out 2
                   have hfz87_3 := blk_frozen BK181.out 3
                   have hfz87_4 := blk_frozen BK181.out 4
                   have p74 : 0 ≤ (x7_4 : Int) := of_decide_eq_true (by first | (with_reducible assumption) | assumption)
                   have q74 : x7_4 < (t178.size : Int) := of_decide_eq_true (by first | (with_reducible assumption) | assumption)
                   have hx74 := bt_at t178 x7_4
                   replace p74 := eq_true p74
                   replace q74 := eq_true q74
                   go_wp2_with (first | ((with_reducible refine gate_callee (f := 75) rfl ?_); refine goesL_ (some 108) rfl rfl Tryd.func75 (by kernel_rfl) rfl #[.int .u8 (bt t178 x7_4)] rfl (by (try simp only [List.map_toArray, List.map_cons, List.map_nil]); first | done | rfl | (simp only [List.length_drop, List.length_take]; rfl) | (simp; done)) ?_; (with_reducible refine (depotref20_letter.calls (bt t178 x7_4) false _ A75.out).mono ?_); rintro e w' ⟨rfl, ⟨nd, rfl⟩⟩; refine ⟨_, rfl, ?_⟩) | (go_at_call 74; (with_reducible refine (depotref20_digit.calls (bt t178 x7_4) false _ A78.out).mono ?_); rintro e w' ⟨rfl, ⟨nd, rfl⟩⟩))
                   go_ret
                   exact ⟨by first | rfl | (simp [errW_none, errW_some] <;> rfl) | (simp [*, errW_none, errW_some] <;> rfl) | (simp [errW_none, errW_some, Go.Proofs.YtmocooihkobdjaaDoor.listNe]; done), by repeat (first | (with_reducible first | exact HB.out | apply below_alloc | apply pw_below_drewN | apply below_drew1 | refine below_set ?_ GE181.out) | exact HB.out)⟩
             ·rw [if_neg c73] at H
              exact absurd H (by simp)
            ·rw [if_neg c72] at H
             have c72b0 : decide (x7_4 < (t178.size : Int)) = false := decide_eq_false c72
             clear c72
             obtain rfl := Option.some.inj H
             have hcz88_0 : wr.cell? ⟨gb181, 0, none⟩ = some (.string t176) := (blk_cell BK181.out 0).trans rfl
             have hcz88_1 : wr.cell? ⟨gb181, 1, none⟩ = some (.string t177) := (blk_cell BK181.out 1).trans rfl
             have hcz88_2 : wr.cell? ⟨gb181, 2, none⟩ = some (.string t178) := (blk_cell BK181.out 2).trans rfl
             have hcz88_3 : wr.cell? ⟨gb181, 3, none⟩ = some (.bool t179) := (blk_cell BK181.out 3).trans rfl
             have hcz88_4 : wr.cell? ⟨gb181, 4, none⟩ = some (.bool t180) := (blk_cell BK181.out 4).trans rfl
             have hfz88_0 := blk_frozen BK181.out 0
             have hfz88_1 := blk_frozen BK181.out 1
             have hfz88_2 := blk_frozen BK181.out 2
             have hfz88_3 := blk_frozen BK181.out 3
             have hfz88_4 := blk_frozen BK181.out 4
             go_wp2
             go_ret
             exact ⟨by first | rfl | (simp [errW_none, errW_some] <;> rfl) | (simp [*, errW_none, errW_some] <;> rfl) | (simp [errW_none, errW_some, Go.Proofs.YtmocooihkobdjaaDoor.listNe]; done), by repeat (first | (with_reducible first | exact HB.out | apply below_alloc | apply pw_below_drewN | apply below_drew1 | refine below_set ?_ GE181.out) | exact HB.out)⟩
end Go.Proofs.YtmocooihkobdjaaDoor.Q
end
section
namespace Go.Proofs.YtmocooihkobdjaaDoor.Q
open Go.RowKit Go.Proofs.YtmocooihkobdjaaDoorW.PrintWords Go.Proofs.YtmocooihkobdjaaDoorW.PrintLast Go.Proofs.YtmocooihkobdjaaDoorW.PrintMore
attribute [local go_sem] max2_int min2_int max_two min_two max_three min_three max_four min_four
set_option linter.unusedVariables false
set_option linter.unusedSimpArgs false
def depotref22_word.l0 : Nat → ByteArray → Int → Option (Int)
 | 0, _, _ => none
 | k + 1, x0, x1 => if x1 < (x0.size : Int) then (if 0 ≤ x1 then ((depotref22_gap.f (bt x0 x1)).bind fun t191 => (if t191 = true then (some x1) else (if (bt x0 x1) = 44 then (some x1) else (if (bt x0 x1) = 124 then (some x1) else (if (bt x0 x1) = 40 then (some x1) else (if (bt x0 x1) = 41 then (some x1) else (depotref22_word.l0 k x0 (wrap64 (x1 + 1))))))))) else (none)) else (some x1)
def depotref22_word.f (k : Nat) (a0 : ByteArray) (a1 : Int) : Option (Int) := depotref22_word.l0 k a0 a1
theorem depotref22_word.mono_l : ∀ k, (∀ y0 y1, LeO (depotref22_word.l0 k y0 y1) (depotref22_word.l0 (k + 1) y0 y1))
 | 0 => fun _ _ r h => by simp [depotref22_word.l0] at h
 | k + 1 => by
  have ih0 := depotref22_word.mono_l k
  ·intro y0 y1
   unfold depotref22_word.l0
   repeat' first
   | (with_reducible exact ih0 _ _)
   | (with_reducible exact LeO.refl _)
   | (with_reducible exact LeO.none _)
   | (with_reducible refine LeO.ite ?_ ?_)
   | (with_reducible refine LeO.bind ?_ (fun _ => ?_))
   | exact ih0 _ _
   | exact LeO.none _
   | refine LeO.ite ?_ ?_
   | refine LeO.bind ?_ (fun _ => ?_)
theorem depotref22_word.mono : ∀ a0 a1 k, LeO (depotref22_word.f k a0 a1) (depotref22_word.f (k + 1) a0 a1) := by
 intro a0 a1 k
 have ih0 := depotref22_word.mono_l k
 unfold depotref22_word.f
 repeat' first
   | (with_reducible exact ih0 _ _)
   | (with_reducible exact LeO.refl _)
   | (with_reducible exact LeO.none _)
   | (with_reducible refine LeO.ite ?_ ?_)
   | (with_reducible refine LeO.bind ?_ (fun _ => ?_))
   | exact ih0 _ _
   | exact LeO.none _
   | refine LeO.ite ?_ ?_
   | refine LeO.bind ?_ (fun _ => ?_)
set_option maxHeartbeats 8000000 in
set_option maxRecDepth 100000 in
theorem depotref22_word.calls (k : Nat) (a0 : ByteArray) (a1 : Int) (r : Int) (w : World) (h : depotref22_word.f k a0 a1 = some r) :
  Calls Tryd.prog 123 #[.string a0, .int .i64 a1] w fun e w' => e = .returned (.int .i64 r) ∧ Drawn0 w w' := by
 have H : (depotref22_word.l0 k a0 a1) = some r := h
 clear h
 have H' := Aside0.mk H
 clear H
 go_enter Tryd.func123, Tryd.ntmps123
 go_wp2
 go_loopg [1] k (fun kq v1 w' => ∃ (x1_1 : Int), v1 = .int .i64 x1_1 ∧ Aside0 (depotref22_word.l0 kq a0 x1_1 = some r) ∧ Aside0 (kq ≤ k) ∧ Drawn0 w w')
 case atStart => exact ⟨(a1), (by first | rfl | (simp; done) | (simp [*]; done)), H', ⟨Nat.le_refl _⟩, by repeat (first | exact Drawn0.refl _ | apply Drawn0.step)⟩
 case round =>
  clear H'
  try clear c1
  try clear p2
  obtain ⟨x1_1, rfl, HA, HK1, ⟨m1, rfl⟩⟩ := hrel
  cases gk with
  | zero => exact absurd HA.out (by simp [depotref22_word.l0])
  | succ k1 =>
   have H := HA.out
   clear HA
   simp only [depotref22_word.l0] at H
   by_cases c3 : x1_1 < (a0.size : Int)
   ·rw [if_pos c3] at H
    have c3b0 : decide (x1_1 < (a0.size : Int)) = true := decide_eq_true c3
    clear c3
    by_cases c4 : 0 ≤ x1_1
    ·rw [if_pos c4] at H
     have c4b0 : decide (0 ≤ x1_1) = true := decide_eq_true c4
     clear c4
     replace H := Option.bind_eq_some_iff.mp H
     obtain ⟨t191, A60, H⟩ := H
     replace H : (if t191 = true then (some x1_1) else (if (bt a0 x1_1) = 44 then (some x1_1) else (if (bt a0 x1_1) = 124 then (some x1_1) else (if (bt a0 x1_1) = 40 then (some x1_1) else (if (bt a0 x1_1) = 41 then (some x1_1) else (depotref22_word.l0 k1 a0 (wrap64 (x1_1 + 1)))))))) = some r := H
     have A6 := Aside0.mk A60
     clear A60
     by_cases c7 : t191 = true
     ·subst c7
      have H1 : (some x1_1) = some r := by rw [if_pos rfl] at H; exact H
      clear H
      have H := H1
      clear H1
      obtain rfl := Option.some.inj H
      have p5 : 0 ≤ (x1_1 : Int) := of_decide_eq_true (by first | (with_reducible assumption) | assumption)
      have q5 : x1_1 < (a0.size : Int) := of_decide_eq_true (by first | (with_reducible assumption) | assumption)
      have hx5 := bt_at a0 x1_1
      replace p5 := eq_true p5
      replace q5 := eq_true q5
      go_wp2_with (first | (go_at_call 122; (with_reducible refine (depotref22_gap.calls (bt a0 x1_1) true _ A6.out).mono ?_); rintro e w' ⟨rfl, ⟨nd, rfl⟩⟩))
      go_ret
      exact ⟨by first | rfl | (simp; done) | (simp [*]; done), by repeat (first | exact Drawn0.refl _ | apply Drawn0.step)⟩
     ·replace c7 := Bool.eq_false_iff.mpr c7
      subst c7
      have H1 : (if (bt a0 x1_1) = 44 then (some x1_1) else (if (bt a0 x1_1) = 124 then (some x1_1) else (if (bt a0 x1_1) = 40 then (some x1_1) else (if (bt a0 x1_1) = 41 then (some x1_1) else (depotref22_word.l0 k1 a0 (wrap64 (x1_1 + 1))))))) = some r := by rw [if_neg (show ¬ (false = true) by decide)] at H; exact H
      clear H
      have H := H1
      clear H1
      by_cases c9 : (bt a0 x1_1) = 44
      ·rw [if_pos c9] at H
       have c9b0 : ((bt a0 x1_1) == 44) = true := beq_iff_eq.mpr c9
       have c9b1 : ((bt a0 x1_1) != 44) = false := bne_eq_false_iff_eq.mpr c9
       clear c9
       obtain rfl := Option.some.inj H
       have p5 : 0 ≤ (x1_1 : Int) := of_decide_eq_true (by first | (with_reducible assumption) | assumption)
       have q5 : x1_1 < (a0.size : Int) := of_decide_eq_true (by first | (with_reducible assumption) | assumption)
       have hx5 := bt_at a0 x1_1
       replace p5 := eq_true p5
       replace q5 := eq_true q5
       go_wp2_with (first | (go_at_call 122; (with_reducible refine (depotref22_gap.calls (bt a0 x1_1) false _ A6.out).mono ?_); rintro e w' ⟨rfl, ⟨nd, rfl⟩⟩; have p8 : 0 ≤ (x1_1 : Int) := of_decide_eq_true (by first | (with_reducible assumption) | assumption); have q8 : x1_1 < (a0.size : Int) := of_decide_eq_true (by first | (with_reducible assumption) | assumption); have hx8 := bt_at a0 x1_1; replace p8 := eq_true p8; replace q8 := eq_true q8))
       go_ret
       exact ⟨by first | rfl | (simp; done) | (simp [*]; done), by repeat (first | exact Drawn0.refl _ | apply Drawn0.step)⟩
      ·rw [if_neg c9] at H
       have c9b0 : ((bt a0 x1_1) == 44) = false := beq_eq_false_iff_ne.mpr c9
       have c9b1 : ((bt a0 x1_1) != 44) = true := bne_iff_ne.mpr c9
       by_cases c11 : (bt a0 x1_1) = 124
       ·rw [if_pos c11] at H
        have c11b0 : ((bt a0 x1_1) == 124) = true := beq_iff_eq.mpr c11
        have c11b1 : ((bt a0 x1_1) != 124) = false := bne_eq_false_iff_eq.mpr c11
        clear c11
        obtain rfl := Option.some.inj H
        have p5 : 0 ≤ (x1_1 : Int) := of_decide_eq_true (by first | (with_reducible assumption) | assumption)
        have q5 : x1_1 < (a0.size : Int) := of_decide_eq_true (by first | (with_reducible assumption) | assumption)
        have hx5 := bt_at a0 x1_1
        replace p5 := eq_true p5
        replace q5 := eq_true q5
        go_wp2_with (first | (go_at_call 122; (with_reducible refine (depotref22_gap.calls (bt a0 x1_1) false _ A6.out).mono ?_); rintro e w' ⟨rfl, ⟨nd, rfl⟩⟩; have p8 : 0 ≤ (x1_1 : Int) := of_decide_eq_true (by first | (with_reducible assumption) | assumption); have q8 : x1_1 < (a0.size : Int) := of_decide_eq_true (by first | (with_reducible assumption) | assumption); have hx8 := bt_at a0 x1_1; replace p8 := eq_true p8; replace q8 := eq_true q8; have p10 : 0 ≤ (x1_1 : Int) := of_decide_eq_true (by first | (with_reducible assumption) | assumption); have q10 : x1_1 < (a0.size : Int) := of_decide_eq_true (by first | (with_reducible assumption) | assumption); have hx10 := bt_at a0 x1_1; replace p10 := eq_true p10; replace q10 := eq_true q10))
        go_ret
        exact ⟨by first | rfl | (simp; done) | (simp [*]; done), by repeat (first | exact Drawn0.refl _ | apply Drawn0.step)⟩
       ·rw [if_neg c11] at H
        have c11b0 : ((bt a0 x1_1) == 124) = false := beq_eq_false_iff_ne.mpr c11
        have c11b1 : ((bt a0 x1_1) != 124) = true := bne_iff_ne.mpr c11
        by_cases c13 : (bt a0 x1_1) = 40
        ·rw [if_pos c13] at H
         have c13b0 : ((bt a0 x1_1) == 40) = true := beq_iff_eq.mpr c13
         have c13b1 : ((bt a0 x1_1) != 40) = false := bne_eq_false_iff_eq.mpr c13
         clear c13
         obtain rfl := Option.some.inj H
         have p5 : 0 ≤ (x1_1 : Int) := of_decide_eq_true (by first | (with_reducible assumption) | assumption)
         have q5 : x1_1 < (a0.size : Int) := of_decide_eq_true (by first | (with_reducible assumption) | assumption)
         have hx5 := bt_at a0 x1_1
         replace p5 := eq_true p5
         replace q5 := eq_true q5
         go_wp2_with (first | (go_at_call 122; (with_reducible refine (depotref22_gap.calls (bt a0 x1_1) false _ A6.out).mono ?_); rintro e w' ⟨rfl, ⟨nd, rfl⟩⟩; have p8 : 0 ≤ (x1_1 : Int) := of_decide_eq_true (by first | (with_reducible assumption) | assumption); have q8 : x1_1 < (a0.size : Int) := of_decide_eq_true (by first | (with_reducible assumption) | assumption); have hx8 := bt_at a0 x1_1; replace p8 := eq_true p8; replace q8 := eq_true q8; have p10 : 0 ≤ (x1_1 : Int) := of_decide_eq_true (by first | (with_reducible assumption) | assumption); have q10 : x1_1 < (a0.size : Int) := of_decide_eq_true (by first | (with_reducible assumption) | assumption); have hx10 := bt_at a0 x1_1; replace p10 := eq_true p10; replace q10 := eq_true q10; have p12 : 0 ≤ (x1_1 : Int) := of_decide_eq_true (by first | (with_reducible assumption) | assumption); have q12 : x1_1 < (a0.size : Int) := of_decide_eq_true (by first | (with_reducible assumption) | assumption); have hx12 := bt_at a0 x1_1; replace p12 := eq_true p12; replace q12 := eq_true q12))
         go_ret
         exact ⟨by first | rfl | (simp; done) | (simp [*]; done), by repeat (first | exact Drawn0.refl _ | apply Drawn0.step)⟩
        ·rw [if_neg c13] at H
         have c13b0 : ((bt a0 x1_1) == 40) = false := beq_eq_false_iff_ne.mpr c13
         have c13b1 : ((bt a0 x1_1) != 40) = true := bne_iff_ne.mpr c13
         by_cases c15 : (bt a0 x1_1) = 41
         ·rw [if_pos c15] at H
          have c15b0 : ((bt a0 x1_1) == 41) = true := beq_iff_eq.mpr c15
          have c15b1 : ((bt a0 x1_1) != 41) = false := bne_eq_false_iff_eq.mpr c15
          clear c15
          obtain rfl := Option.some.inj H
          have p5 : 0 ≤ (x1_1 : Int) := of_decide_eq_true (by first | (with_reducible assumption) | assumption)
          have q5 : x1_1 < (a0.size : Int) := of_decide_eq_true (by first | (with_reducible assumption) | assumption)
          have hx5 := bt_at a0 x1_1
          replace p5 := eq_true p5
          replace q5 := eq_true q5
          go_wp2_with (first | (go_at_call 122; (with_reducible refine (depotref22_gap.calls (bt a0 x1_1) false _ A6.out).mono ?_); rintro e w' ⟨rfl, ⟨nd, rfl⟩⟩; have p8 : 0 ≤ (x1_1 : Int) := of_decide_eq_true (by first | (with_reducible assumption) | assumption); have q8 : x1_1 < (a0.size : Int) := of_decide_eq_true (by first | (with_reducible assumption) | assumption); have hx8 := bt_at a0 x1_1; replace p8 := eq_true p8; replace q8 := eq_true q8; have p10 : 0 ≤ (x1_1 : Int) := of_decide_eq_true (by first | (with_reducible assumption) | assumption); have q10 : x1_1 < (a0.size : Int) := of_decide_eq_true (by first | (with_reducible assumption) | assumption); have hx10 := bt_at a0 x1_1; replace p10 := eq_true p10; replace q10 := eq_true q10; have p12 : 0 ≤ (x1_1 : Int) := of_decide_eq_true (by first | (with_reducible assumption) | assumption); have q12 : x1_1 < (a0.size : Int) := of_decide_eq_true (by first | (with_reducible assumption) | assumption); have hx12 := bt_at a0 x1_1; replace p12 := eq_true p12; replace q12 := eq_true q12; have p14 : 0 ≤ (x1_1 : Int) := of_decide_eq_true (by first | (with_reducible assumption) | assumption); have q14 : x1_1 < (a0.size : Int) := of_decide_eq_true (by first | (with_reducible assumption) | assumption); have hx14 := bt_at a0 x1_1; replace p14 := eq_true p14; replace q14 := eq_true q14))
          go_ret
          exact ⟨by first | rfl | (simp; done) | (simp [*]; done), by repeat (first | exact Drawn0.refl _ | apply Drawn0.step)⟩
         ·rw [if_neg c15] at H
          have c15b0 : ((bt a0 x1_1) == 41) = false := beq_eq_false_iff_ne.mpr c15
          have c15b1 : ((bt a0 x1_1) != 41) = true := bne_iff_ne.mpr c15
          have H' := Aside0.mk H
          clear H
          have p5 : 0 ≤ (x1_1 : Int) := of_decide_eq_true (by first | (with_reducible assumption) | assumption)
          have q5 : x1_1 < (a0.size : Int) := of_decide_eq_true (by first | (with_reducible assumption) | assumption)
          have hx5 := bt_at a0 x1_1
          replace p5 := eq_true p5
          replace q5 := eq_true q5
          go_wp2_with (first | (go_at_call 122; (with_reducible refine (depotref22_gap.calls (bt a0 x1_1) false _ A6.out).mono ?_); rintro e w' ⟨rfl, ⟨nd, rfl⟩⟩; have p8 : 0 ≤ (x1_1 : Int) := of_decide_eq_true (by first | (with_reducible assumption) | assumption); have q8 : x1_1 < (a0.size : Int) := of_decide_eq_true (by first | (with_reducible assumption) | assumption); have hx8 := bt_at a0 x1_1; replace p8 := eq_true p8; replace q8 := eq_true q8; have p10 : 0 ≤ (x1_1 : Int) := of_decide_eq_true (by first | (with_reducible assumption) | assumption); have q10 : x1_1 < (a0.size : Int) := of_decide_eq_true (by first | (with_reducible assumption) | assumption); have hx10 := bt_at a0 x1_1; replace p10 := eq_true p10; replace q10 := eq_true q10; have p12 : 0 ≤ (x1_1 : Int) := of_decide_eq_true (by first | (with_reducible assumption) | assumption); have q12 : x1_1 < (a0.size : Int) := of_decide_eq_true (by first | (with_reducible assumption) | assumption); have hx12 := bt_at a0 x1_1; replace p12 := eq_true p12; replace q12 := eq_true q12; have p14 : 0 ≤ (x1_1 : Int) := of_decide_eq_true (by first | (with_reducible assumption) | assumption); have q14 : x1_1 < (a0.size : Int) := of_decide_eq_true (by first | (with_reducible assumption) | assumption); have hx14 := bt_at a0 x1_1; replace p14 := eq_true p14; replace q14 := eq_true q14))
          go_roundg k1
          case measure => have := HK1.out; omega
          case rel => exact ⟨(wrap64 (x1_1 + 1)), (by first | rfl | (simp; done) | (simp [*]; done)), H', ⟨by have := HK1.out; omega⟩, by repeat (first | exact Drawn0.refl _ | apply Drawn0.step)⟩
    ·rw [if_neg c4] at H
     exact absurd H (by simp)
   ·rw [if_neg c3] at H
    have c3b0 : decide (x1_1 < (a0.size : Int)) = false := decide_eq_false c3
    clear c3
    obtain rfl := Option.some.inj H
    go_wp2
    go_ret
    exact ⟨by first | rfl | (simp; done) | (simp [*]; done), by repeat (first | exact Drawn0.refl _ | apply Drawn0.step)⟩
end Go.Proofs.YtmocooihkobdjaaDoor.Q
end
section
namespace Go.Proofs.YtmocooihkobdjaaDoor.Q
open Go.RowKit Go.Proofs.YtmocooihkobdjaaDoorW.PrintWords Go.Proofs.YtmocooihkobdjaaDoorW.PrintLast Go.Proofs.YtmocooihkobdjaaDoorW.PrintMore
attribute [local go_sem] max2_int min2_int max_two min_two max_three min_three max_four min_four
set_option linter.unusedVariables false
set_option linter.unusedSimpArgs false
def depotref22_sign.l0 : Nat → ByteArray → Int → Option (Int)
 | 0, _, _ => none
 | k + 1, x0, x1 => if x1 < (x0.size : Int) then (if 0 ≤ x1 then (if (bt x0 x1) = 60 then (depotref22_sign.l0 k x0 (wrap64 (x1 + 1))) else (if (bt x0 x1) = 61 then (depotref22_sign.l0 k x0 (wrap64 (x1 + 1))) else (if (bt x0 x1) = 62 then (depotref22_sign.l0 k x0 (wrap64 (x1 + 1))) else (some x1)))) else (none)) else (some x1)
def depotref22_sign.f (k : Nat) (a0 : ByteArray) (a1 : Int) : Option (Int) := depotref22_sign.l0 k a0 a1
theorem depotref22_sign.mono_l : ∀ k, (∀ y0 y1, LeO (depotref22_sign.l0 k y0 y1) (depotref22_sign.l0 (k + 1) y0 y1))
 | 0 => fun _ _ r h => by simp [depotref22_sign.l0] at h
 | k + 1 => by
  have ih0 := depotref22_sign.mono_l k
  ·intro y0 y1
   unfold depotref22_sign.l0
   repeat' first
   | (with_reducible exact ih0 _ _)
   | (with_reducible exact LeO.refl _)
   | (with_reducible exact LeO.none _)
   | (with_reducible refine LeO.ite ?_ ?_)
   | (with_reducible refine LeO.bind ?_ (fun _ => ?_))
   | exact ih0 _ _
   | exact LeO.none _
   | refine LeO.ite ?_ ?_
   | refine LeO.bind ?_ (fun _ => ?_)
theorem depotref22_sign.mono : ∀ a0 a1 k, LeO (depotref22_sign.f k a0 a1) (depotref22_sign.f (k + 1) a0 a1) := by
 intro a0 a1 k
 have ih0 := depotref22_sign.mono_l k
 unfold depotref22_sign.f
 repeat' first
   | (with_reducible exact ih0 _ _)
   | (with_reducible exact LeO.refl _)
   | (with_reducible exact LeO.none _)
   | (with_reducible refine LeO.ite ?_ ?_)
   | (with_reducible refine LeO.bind ?_ (fun _ => ?_))
   | exact ih0 _ _
   | exact LeO.none _
   | refine LeO.ite ?_ ?_
   | refine LeO.bind ?_ (fun _ => ?_)
set_option maxHeartbeats 8000000 in
set_option maxRecDepth 100000 in
theorem depotref22_sign.calls (k : Nat) (a0 : ByteArray) (a1 : Int) (r : Int) (w : World) (h : depotref22_sign.f k a0 a1 = some r) :
  Calls Tryd.prog 124 #[.string a0, .int .i64 a1] w fun e w' => e = .returned (.int .i64 r) ∧ Drawn0 w w' := by
 have H : (depotref22_sign.l0 k a0 a1) = some r := h
 clear h
 have H' := Aside0.mk H
 clear H
 go_enter Tryd.func124, Tryd.ntmps124
 go_wp2
 go_loopg [1] k (fun kq v1 w' => ∃ (x1_1 : Int), v1 = .int .i64 x1_1 ∧ Aside0 (depotref22_sign.l0 kq a0 x1_1 = some r) ∧ Aside0 (kq ≤ k) ∧ Drawn0 w w')
 case atStart => exact ⟨(a1), (by first | rfl | (simp; done) | (simp [*]; done)), H', ⟨Nat.le_refl _⟩, by repeat (first | exact Drawn0.refl _ | apply Drawn0.step)⟩
 case round =>
  clear H'
  try clear c1
  try clear p2
  obtain ⟨x1_1, rfl, HA, HK1, ⟨m1, rfl⟩⟩ := hrel
  cases gk with
  | zero => exact absurd HA.out (by simp [depotref22_sign.l0])
  | succ k1 =>
   have H := HA.out
   clear HA
   simp only [depotref22_sign.l0] at H
   by_cases c3 : x1_1 < (a0.size : Int)
   ·rw [if_pos c3] at H
    have c3b0 : decide (x1_1 < (a0.size : Int)) = true := decide_eq_true c3
    clear c3
    by_cases c4 : 0 ≤ x1_1
    ·rw [if_pos c4] at H
     have c4b0 : decide (0 ≤ x1_1) = true := decide_eq_true c4
     clear c4
     by_cases c6 : (bt a0 x1_1) = 60
     ·rw [if_pos c6] at H
      have c6b0 : ((bt a0 x1_1) == 60) = true := beq_iff_eq.mpr c6
      have c6b1 : ((bt a0 x1_1) != 60) = false := bne_eq_false_iff_eq.mpr c6
      clear c6
      have H' := Aside0.mk H
      clear H
      have p5 : 0 ≤ (x1_1 : Int) := of_decide_eq_true (by first | (with_reducible assumption) | assumption)
      have q5 : x1_1 < (a0.size : Int) := of_decide_eq_true (by first | (with_reducible assumption) | assumption)
      have hx5 := bt_at a0 x1_1
      replace p5 := eq_true p5
      replace q5 := eq_true q5
      go_wp2
      go_roundg k1
      case measure => have := HK1.out; omega
      case rel => exact ⟨(wrap64 (x1_1 + 1)), (by first | rfl | (simp; done) | (simp [*]; done)), H', ⟨by have := HK1.out; omega⟩, by repeat (first | exact Drawn0.refl _ | apply Drawn0.step)⟩
     ·rw [if_neg c6] at H
      have c6b0 : ((bt a0 x1_1) == 60) = false := beq_eq_false_iff_ne.mpr c6
      have c6b1 : ((bt a0 x1_1) != 60) = true := bne_iff_ne.mpr c6
      by_cases c8 : (bt a0 x1_1) = 61
      ·rw [if_pos c8] at H
       have c8b0 : ((bt a0 x1_1) == 61) = true := beq_iff_eq.mpr c8
       have c8b1 : ((bt a0 x1_1) != 61) = false := bne_eq_false_iff_eq.mpr c8
       clear c8
       have H' := Aside0.mk H
       clear H
       have p5 : 0 ≤ (x1_1 : Int) := of_decide_eq_true (by first | (with_reducible assumption) | assumption)
       have q5 : x1_1 < (a0.size : Int) := of_decide_eq_true (by first | (with_reducible assumption) | assumption)
       have hx5 := bt_at a0 x1_1
       replace p5 := eq_true p5
       replace q5 := eq_true q5
       have p7 : 0 ≤ (x1_1 : Int) := of_decide_eq_true (by first | (with_reducible assumption) | assumption)
       have q7 : x1_1 < (a0.size : Int) := of_decide_eq_true (by first | (with_reducible assumption) | assumption)
       have hx7 := bt_at a0 x1_1
       replace p7 := eq_true p7
       replace q7 := eq_true q7
       go_wp2
       go_roundg k1
       case measure => have := HK1.out; omega
       case rel => exact ⟨(wrap64 (x1_1 + 1)), (by first | rfl | (simp; done) | (simp [*]; done)), H', ⟨by have := HK1.out; omega⟩, by repeat (first | exact Drawn0.refl _ | apply Drawn0.step)⟩
      ·rw [if_neg c8] at H
       have c8b0 : ((bt a0 x1_1) == 61) = false := beq_eq_false_iff_ne.mpr c8
       have c8b1 : ((bt a0 x1_1) != 61) = true := bne_iff_ne.mpr c8
       by_cases c10 : (bt a0 x1_1) = 62
       ·rw [if_pos c10] at H
        have c10b0 : ((bt a0 x1_1) == 62) = true := beq_iff_eq.mpr c10
        have c10b1 : ((bt a0 x1_1) != 62) = false := bne_eq_false_iff_eq.mpr c10
        clear c10
        have H' := Aside0.mk H
        clear H
        have p5 : 0 ≤ (x1_1 : Int) := of_decide_eq_true (by first | (with_reducible assumption) | assumption)
        have q5 : x1_1 < (a0.size : Int) := of_decide_eq_true (by first | (with_reducible assumption) | assumption)
        have hx5 := bt_at a0 x1_1
        replace p5 := eq_true p5
        replace q5 := eq_true q5
        have p7 : 0 ≤ (x1_1 : Int) := of_decide_eq_true (by first | (with_reducible assumption) | assumption)
        have q7 : x1_1 < (a0.size : Int) := of_decide_eq_true (by first | (with_reducible assumption) | assumption)
        have hx7 := bt_at a0 x1_1
        replace p7 := eq_true p7
        replace q7 := eq_true q7
        have p9 : 0 ≤ (x1_1 : Int) := of_decide_eq_true (by first | (with_reducible assumption) | assumption)
        have q9 : x1_1 < (a0.size : Int) := of_decide_eq_true (by first | (with_reducible assumption) | assumption)
        have hx9 := bt_at a0 x1_1
        replace p9 := eq_true p9
        replace q9 := eq_true q9
        go_wp2
        go_roundg k1
        case measure => have := HK1.out; omega
        case rel => exact ⟨(wrap64 (x1_1 + 1)), (by first | rfl | (simp; done) | (simp [*]; done)), H', ⟨by have := HK1.out; omega⟩, by repeat (first | exact Drawn0.refl _ | apply Drawn0.step)⟩
       ·rw [if_neg c10] at H
        have c10b0 : ((bt a0 x1_1) == 62) = false := beq_eq_false_iff_ne.mpr c10
        have c10b1 : ((bt a0 x1_1) != 62) = true := bne_iff_ne.mpr c10
        obtain rfl := Option.some.inj H
        have p5 : 0 ≤ (x1_1 : Int) := of_decide_eq_true (by first | (with_reducible assumption) | assumption)
        have q5 : x1_1 < (a0.size : Int) := of_decide_eq_true (by first | (with_reducible assumption) | assumption)
        have hx5 := bt_at a0 x1_1
        replace p5 := eq_true p5
        replace q5 := eq_true q5
        have p7 : 0 ≤ (x1_1 : Int) := of_decide_eq_true (by first | (with_reducible assumption) | assumption)
        have q7 : x1_1 < (a0.size : Int) := of_decide_eq_true (by first | (with_reducible assumption) | assumption)
        have hx7 := bt_at a0 x1_1
        replace p7 := eq_true p7
        replace q7 := eq_true q7
        have p9 : 0 ≤ (x1_1 : Int) := of_decide_eq_true (by first | (with_reducible assumption) | assumption)
        have q9 : x1_1 < (a0.size : Int) := of_decide_eq_true (by first | (with_reducible assumption) | assumption)
        have hx9 := bt_at a0 x1_1
        replace p9 := eq_true p9
        replace q9 := eq_true q9
        go_wp2
        go_ret
        exact ⟨by first | rfl | (simp; done) | (simp [*]; done), by repeat (first | exact Drawn0.refl _ | apply Drawn0.step)⟩
    ·rw [if_neg c4] at H
     exact absurd H (by simp)
   ·rw [if_neg c3] at H
    have c3b0 : decide (x1_1 < (a0.size : Int)) = false := decide_eq_false c3
    clear c3
    obtain rfl := Option.some.inj H
    go_wp2
    go_ret
    exact ⟨by first | rfl | (simp; done) | (simp [*]; done), by repeat (first | exact Drawn0.refl _ | apply Drawn0.step)⟩
end Go.Proofs.YtmocooihkobdjaaDoor.Q
end
