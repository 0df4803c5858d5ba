-- printed by wip/myprint.py of this session over the kit's print.py; Lean checks it
import Derived.Test.YtmocooihkobdjaaDoorB0
namespace Go.Proofs.YtmocooihkobdjaaDoor.B
open Go.RowKit Go.Proofs.YtmocooihkobdjaaDoorW.PrintWords Go.Proofs.YtmocooihkobdjaaDoorW.PrintLast Go.Proofs.YtmocooihkobdjaaDoorW.PrintMore
attribute [local go_sem] max2_int min2_int max_two min_two max_three min_three max_four min_four   -- for this text's walks alone
set_option linter.unusedVariables false
set_option linter.unusedSimpArgs false

/-! ### relation_word: function 49 -/
def opAt (k : Nat) : Value := match k with
  | 0 => .agg #[.int .i64 1, .string ⟨#[60, 60]⟩]
  | 1 => .agg #[.int .i64 2, .string ⟨#[60, 61]⟩]
  | 2 => .agg #[.int .i64 3, .string ⟨#[61]⟩]
  | 3 => .agg #[.int .i64 4, .string ⟨#[62, 61]⟩]
  | _ => .agg #[.int .i64 5, .string ⟨#[62, 62]⟩]
theorem opIdx0 (w : World) : (Instr.index 106 (.agg #[.int .i64 1, .string ⟨#[60, 60]⟩, .int .i64 2, .string ⟨#[60, 61]⟩, .int .i64 3, .string ⟨#[61]⟩, .int .i64 4, .string ⟨#[62, 61]⟩, .int .i64 5, .string ⟨#[62, 62]⟩]) (.int .i64 0)).run Tryd.prog w = .ok (.agg #[.int .i64 1, .string ⟨#[60, 60]⟩]) w := by kernel_rfl
theorem opIdx1 (w : World) : (Instr.index 106 (.agg #[.int .i64 1, .string ⟨#[60, 60]⟩, .int .i64 2, .string ⟨#[60, 61]⟩, .int .i64 3, .string ⟨#[61]⟩, .int .i64 4, .string ⟨#[62, 61]⟩, .int .i64 5, .string ⟨#[62, 62]⟩]) (.int .i64 1)).run Tryd.prog w = .ok (.agg #[.int .i64 2, .string ⟨#[60, 61]⟩]) w := by kernel_rfl
theorem opIdx2 (w : World) : (Instr.index 106 (.agg #[.int .i64 1, .string ⟨#[60, 60]⟩, .int .i64 2, .string ⟨#[60, 61]⟩, .int .i64 3, .string ⟨#[61]⟩, .int .i64 4, .string ⟨#[62, 61]⟩, .int .i64 5, .string ⟨#[62, 62]⟩]) (.int .i64 2)).run Tryd.prog w = .ok (.agg #[.int .i64 3, .string ⟨#[61]⟩]) w := by kernel_rfl
theorem opIdx3 (w : World) : (Instr.index 106 (.agg #[.int .i64 1, .string ⟨#[60, 60]⟩, .int .i64 2, .string ⟨#[60, 61]⟩, .int .i64 3, .string ⟨#[61]⟩, .int .i64 4, .string ⟨#[62, 61]⟩, .int .i64 5, .string ⟨#[62, 62]⟩]) (.int .i64 3)).run Tryd.prog w = .ok (.agg #[.int .i64 4, .string ⟨#[62, 61]⟩]) w := by kernel_rfl
theorem opIdx4 (w : World) : (Instr.index 106 (.agg #[.int .i64 1, .string ⟨#[60, 60]⟩, .int .i64 2, .string ⟨#[60, 61]⟩, .int .i64 3, .string ⟨#[61]⟩, .int .i64 4, .string ⟨#[62, 61]⟩, .int .i64 5, .string ⟨#[62, 62]⟩]) (.int .i64 4)).run Tryd.prog w = .ok (.agg #[.int .i64 5, .string ⟨#[62, 62]⟩]) w := by kernel_rfl
def relation_word.f (a0 : Int) : Option (ByteArray) := some (wordOf a0)
set_option maxHeartbeats 4000000 in
set_option maxRecDepth 100000 in
theorem relation_word.calls (a0 : Int) (r : ByteArray) (w : World) (hG : GG w) (h : relation_word.f a0 = some r) :
    Calls Tryd.prog 49 #[.int .i64 a0] w fun e w' => e = .returned (.string r) ∧ Below w.heap.size w w' := by
  have Hr : Hid (r = wordOf a0) := (Option.some.inj h).symm
  clear h
  obtain ⟨tg, fg, hG⟩ := hG
  have HG := Lib.hid hG
  clear hG
  have hu65 := Tryd.underlying105
  have i0 := opIdx0; have i1 := opIdx1; have i2 := opIdx2; have i3 := opIdx3; have i4 := opIdx4
  go_enter Tryd.func49, Tryd.ntmps49
  go_wp2_with (refine wpList_load_row rfl 106 _ rfl 0 rfl tg _ fg _ HG.out Tryd.underlying106 rfl (by kernel_rfl) ?_; unfold opCells)
  go_loopw [6] (fun v wr => ∃ z : Int, 0 ≤ z ∧ z ≤ 5 ∧ v = .int .i64 z ∧ Hid (Below w.heap.size w wr) ∧ Hid (a0 ≤ 0 ∨ z < a0)) (fun v _ => (5 - intOf v).toNat)
  case atStart => exact ⟨0, by omega, by omega, rfl, Below.refl _ _, by unfold Hid; omega⟩
  case round =>
    obtain ⟨z, z0, z5, rfl, hb, hn⟩ := hrel
    have Hz : z = 0 ∨ z = 1 ∨ z = 2 ∨ z = 3 ∨ z = 4 ∨ z = 5 := by omega
    by_cases he : a0 = z + 1 ∧ z < 5
    · obtain ⟨rfl, h5⟩ := he
      rcases Hz with rfl | rfl | rfl | rfl | rfl | rfl
      case inr.inr.inr.inr.inr => omega
      all_goals
        clear z0 z5 h5
        go_wp2
        go_ret
        obtain rfl := Hr.out
        exact ⟨rfl, below_alloc hb.out _⟩
    · rcases Hz with rfl | rfl | rfl | rfl | rfl | rfl
      case inr.inr.inr.inr.inr =>
        have hd : decide ((5 : Int) < 5) = false := by decide
        go_wp2
        go_ret
        have hw : wordOf a0 = ⟨#[]⟩ := by
          have := hn.out
          unfold wordOf
          rw [if_neg (by omega), if_neg (by omega), if_neg (by omega), if_neg (by omega), if_neg (by omega)]
        obtain rfl := Hr.out
        exact ⟨by rw [hw]; rfl, hb.out⟩
      case inl =>
        have Hn2 : Hid (a0 ≤ 0 ∨ 1 < a0) := by have := hn.out; unfold Hid; omega
        have hbe : ((1 : Int) == a0) = false := by rw [beq_eq_false_iff_ne]; omega
        clear hn he
        go_wp2
        go_roundw
        case rel => exact ⟨1, by omega, by omega, rfl, below_alloc hb.out _, Hn2.out⟩
        case measure => simp [intOf]
      case inr.inl =>
        have Hn2 : Hid (a0 ≤ 0 ∨ 2 < a0) := by have := hn.out; unfold Hid; omega
        have hbe : ((2 : Int) == a0) = false := by rw [beq_eq_false_iff_ne]; omega
        clear hn he
        go_wp2
        go_roundw
        case rel => exact ⟨2, by omega, by omega, rfl, below_alloc hb.out _, Hn2.out⟩
        case measure => simp [intOf]
      case inr.inr.inl =>
        have Hn2 : Hid (a0 ≤ 0 ∨ 3 < a0) := by have := hn.out; unfold Hid; omega
        have hbe : ((3 : Int) == a0) = false := by rw [beq_eq_false_iff_ne]; omega
        clear hn he
        go_wp2
        go_roundw
        case rel => exact ⟨3, by omega, by omega, rfl, below_alloc hb.out _, Hn2.out⟩
        case measure => simp [intOf]
      case inr.inr.inr.inl =>
        have Hn2 : Hid (a0 ≤ 0 ∨ 4 < a0) := by have := hn.out; unfold Hid; omega
        have hbe : ((4 : Int) == a0) = false := by rw [beq_eq_false_iff_ne]; omega
        clear hn he
        go_wp2
        go_roundw
        case rel => exact ⟨4, by omega, by omega, rfl, below_alloc hb.out _, Hn2.out⟩
        case measure => simp [intOf]
      case inr.inr.inr.inr.inl =>
        have Hn2 : Hid (a0 ≤ 0 ∨ 5 < a0) := by have := hn.out; unfold Hid; omega
        have hbe : ((5 : Int) == a0) = false := by rw [beq_eq_false_iff_ne]; omega
        clear hn he
        go_wp2
        go_roundw
        case rel => exact ⟨5, by omega, by omega, rfl, below_alloc hb.out _, Hn2.out⟩
        case measure => simp [intOf]


/-! ### stringslite_IndexByte: function 117 -/
/-- 'stringslite.IndexByte'. -/
def stringslite_IndexByte.f (a0 : ByteArray) (a1 : Int) : Option (Int) := some (Lib.indexByte a0.data.toList a1.toNat.toUInt8)
set_option maxHeartbeats 1000000 in
set_option maxRecDepth 100000 in
theorem stringslite_IndexByte.calls (a0 : ByteArray) (a1 : Int) (r : Int) (w : World) (h : stringslite_IndexByte.f a0 a1 = some r) :
    Calls Tryd.prog 117 #[.string a0, .int .u8 a1] w fun e w' => e = .returned (.int .i64 r) ∧ Drawn0 w w' := by
  have Hr : Hid (r = Lib.indexByte a0.data.toList a1.toNat.toUInt8) := (Option.some.inj h).symm
  clear h
  go_enter Tryd.func117, Tryd.ntmps117
  go_wp2
  rw [run_callFunc_extern Tryd.func126 (by kernel_rfl) (by kernel_rfl) (by kernel_rfl) (e := Extern.BytealgIndexByte.indexByte) (by kernel_rfl), Lib.run_indexByteString]
  simp only [Result.andThen]
  rw [Oper.upon_value]
  go_wp2
  go_ret
  obtain rfl := Hr.out
  exact ⟨rfl, Drawn0.refl _⟩


/-! ### stringslite_Index: function 100 -/
/-- 'stringslite.Index', of a text of one byte alone. -/
def stringslite_Index.f (a0 : ByteArray) (a1 : ByteArray) : Option (Int) := if a1.size = 1 then some (Lib.indexByte a0.data.toList (a1.data.getD 0 0)) else none
set_option maxHeartbeats 1000000 in
set_option maxRecDepth 100000 in
theorem stringslite_Index.calls (a0 : ByteArray) (a1 : ByteArray) (r : Int) (w : World) (h : stringslite_Index.f a0 a1 = some r) :
    Calls Tryd.prog 100 #[.string a0, .string a1] w fun e w' => e = .returned (.int .i64 r) ∧ Drawn0 w w' := by
  unfold stringslite_Index.f at h
  split at h
  case isFalse => cases h
  case isTrue h1 =>
    obtain ⟨⟨l⟩⟩ := a1
    obtain ⟨c, rfl⟩ : ∃ c, l = [c] := by
      have : l.length = 1 := h1
      match l, this with
      | [c], _ => exact ⟨c, rfl⟩
    clear h1
    have Hr : Hid (r = Lib.indexByte a0.data.toList c) := (Option.some.inj h).symm
    clear h
    go_enter Tryd.func100, Tryd.ntmps100
    go_wp2_with (go_at_call 117; refine (stringslite_IndexByte.calls _ _ _ _ rfl).mono ?_; rintro e w' ⟨rfl, ⟨nd, rfl⟩⟩)
    · have h : ([c] == a0.toList) = true := by assumption
      go_ret
      refine ⟨?_, Drawn0.refl _⟩
      have e : a0.data.toList = [c] := by rw [← Lib.toList_data]; exact (beq_iff_eq.1 h).symm
      rw [Hr.out, e]
      simp [Lib.indexByte]
    · go_ret
      obtain rfl := Hr.out
      exact ⟨rfl, ⟨⟨_, rfl⟩⟩⟩


/-! ### stringslite_Cut: function 112 -/
def stringslite_Cut.f (a0 : ByteArray) (a1 : ByteArray) : Option (ByteArray × ByteArray × Bool) := (stringslite_Index.f a0 a1).bind fun t124 => (if t124 ≥ 0 then (if 0 ≤ t124 then (if t124 ≤ (a0.size : Int) then (if 0 ≤ (wrap64 (t124 + (a1.size : Int))) then (if (wrap64 (t124 + (a1.size : Int))) ≤ (a0.size : Int) then (some (a0.extract 0 (t124 : Int).toNat, a0.extract ((wrap64 (t124 + (a1.size : Int))) : Int).toNat a0.size, true)) else (none)) else (none)) else (none)) else (none)) else (some (a0, (⟨#[]⟩ : ByteArray), false)))
set_option maxHeartbeats 8000000 in
set_option maxRecDepth 100000 in
theorem stringslite_Cut.calls (a0 : ByteArray) (a1 : ByteArray) (r1 : ByteArray) (r2 : ByteArray) (r3 : Bool) (w : World) (h : stringslite_Cut.f a0 a1 = some (r1, r2, r3)) :
    Calls Tryd.prog 112 #[.string a0, .string a1] w fun e w' => e = .returned (.tuple #[.string r1, .string r2, .bool r3]) ∧ Drawn0 w w' := by
  have H : ((stringslite_Index.f a0 a1).bind fun t124 => (if t124 ≥ 0 then (if 0 ≤ t124 then (if t124 ≤ (a0.size : Int) then (if 0 ≤ (wrap64 (t124 + (a1.size : Int))) then (if (wrap64 (t124 + (a1.size : Int))) ≤ (a0.size : Int) then (some (a0.extract 0 (t124 : Int).toNat, a0.extract ((wrap64 (t124 + (a1.size : Int))) : Int).toNat a0.size, true)) else (none)) else (none)) else (none)) else (none)) else (some (a0, (⟨#[]⟩ : ByteArray), false)))) = some (r1, r2, r3) := h
  clear h
  replace H := Option.bind_eq_some_iff.mp H
  obtain ⟨t124, A30, H⟩ := H
  replace H : (if t124 ≥ 0 then (if 0 ≤ t124 then (if t124 ≤ (a0.size : Int) then (if 0 ≤ (wrap64 (t124 + (a1.size : Int))) then (if (wrap64 (t124 + (a1.size : Int))) ≤ (a0.size : Int) then (some (a0.extract 0 (t124 : Int).toNat, a0.extract ((wrap64 (t124 + (a1.size : Int))) : Int).toNat a0.size, true)) else (none)) else (none)) else (none)) else (none)) else (some (a0, (⟨#[]⟩ : ByteArray), false))) = some (r1, r2, r3) := H
  have A3 := Aside0.mk A30
  clear A30
  by_cases c4 : t124 ≥ 0
  · rw [if_pos c4] at H
    have c4b0 : decide (0 ≤ t124) = true := decide_eq_true c4
    clear c4
    by_cases c5 : 0 ≤ t124
    · rw [if_pos c5] at H
      have c5b0 := eq_true c5
      have c5b1 : decide (0 ≤ t124) = true := decide_eq_true c5
      clear c5
      by_cases c6 : t124 ≤ (a0.size : Int)
      · rw [if_pos c6] at H
        have c6b0 := eq_true c6
        have c6b1 : decide (t124 ≤ (a0.size : Int)) = true := decide_eq_true c6
        clear c6
        obtain ⟨ji7, hji7⟩ : ∃ j_ : Int, (wrap64 (t124 + (a1.size : Int))) = j_ := ⟨_, rfl⟩
        replace H : (if 0 ≤ (ji7) then (if (ji7) ≤ (a0.size : Int) then (some (a0.extract 0 (t124 : Int).toNat, a0.extract ((ji7) : Int).toNat a0.size, true)) else (none)) else (none)) = some (r1, r2, r3) := by first | (rw [hji7] at H; exact H) | (simp only [hji7] at H ⊢; exact H)
        (try rw [hji7] at A3)
        have hji7w : (IntKind.i64.wrap (t124 + (a1.size : Int))) = ji7 := (i64_w _).trans hji7
        by_cases c8 : 0 ≤ (ji7)
        · rw [if_pos c8] at H
          have c8b0 := eq_true c8
          have c8b1 : decide (0 ≤ (ji7)) = true := decide_eq_true c8
          clear c8
          by_cases c9 : (ji7) ≤ (a0.size : Int)
          · rw [if_pos c9] at H
            have c9b0 := eq_true c9
            have c9b1 : decide ((ji7) ≤ (a0.size : Int)) = true := decide_eq_true c9
            clear c9
            simp only [Option.some.injEq, Prod.mk.injEq] at H
            obtain ⟨rfl, rfl, rfl⟩ := H
            go_enter Tryd.func112, Tryd.ntmps112
            go_wp2_with (first | (go_at_call 100; (with_reducible refine (stringslite_Index.calls a0 a1 t124 _ A3.out).mono ?_); rintro e w' ⟨rfl, ⟨nd, rfl⟩⟩; (try first | exact ⟨rfl, _, World.drewN_drewN _ _ _⟩ | exact ⟨rfl, _, Eq.trans (World.drewN_drewN _ _ _) (congrArg (World.drewN _) (Nat.add_assoc _ _ _))⟩)))
            repeat (go_quiet (first | (go_at_call 100; (with_reducible refine (stringslite_Index.calls a0 a1 t124 _ A3.out).mono ?_); rintro e w' ⟨rfl, ⟨nd, rfl⟩⟩; (try first | exact ⟨rfl, _, World.drewN_drewN _ _ _⟩ | exact ⟨rfl, _, Eq.trans (World.drewN_drewN _ _ _) (congrArg (World.drewN _) (Nat.add_assoc _ _ _))⟩))); try go_wp2_with (first | (go_at_call 100; (with_reducible refine (stringslite_Index.calls a0 a1 t124 _ A3.out).mono ?_); rintro e w' ⟨rfl, ⟨nd, rfl⟩⟩; (try first | exact ⟨rfl, _, World.drewN_drewN _ _ _⟩ | exact ⟨rfl, _, Eq.trans (World.drewN_drewN _ _ _) (congrArg (World.drewN _) (Nat.add_assoc _ _ _))⟩))))
            go_ret3
            exact ⟨by first | rfl | (simp; done) | (simp only [← hji7] <;> (first | rfl | simp)) | (simp [*]; done), by repeat (first | exact Drawn0.refl _ | apply Drawn0.step)⟩
          · rw [if_neg c9] at H
            exact absurd H (by simp)
        · rw [if_neg c8] at H
          exact absurd H (by simp)
      · rw [if_neg c6] at H
        exact absurd H (by simp)
    · rw [if_neg c5] at H
      exact absurd H (by simp)
  · rw [if_neg c4] at H
    have c4b0 : decide (0 ≤ t124) = false := decide_eq_false c4
    clear c4
    simp only [Option.some.injEq, Prod.mk.injEq] at H
    obtain ⟨rfl, rfl, rfl⟩ := H
    go_enter Tryd.func112, Tryd.ntmps112
    go_wp2_with (first | (go_at_call 100; (with_reducible refine (stringslite_Index.calls a0 a1 t124 _ A3.out).mono ?_); rintro e w' ⟨rfl, ⟨nd, rfl⟩⟩; (try first | exact ⟨rfl, _, World.drewN_drewN _ _ _⟩ | exact ⟨rfl, _, Eq.trans (World.drewN_drewN _ _ _) (congrArg (World.drewN _) (Nat.add_assoc _ _ _))⟩)))
    repeat (go_quiet (first | (go_at_call 100; (with_reducible refine (stringslite_Index.calls a0 a1 t124 _ A3.out).mono ?_); rintro e w' ⟨rfl, ⟨nd, rfl⟩⟩; (try first | exact ⟨rfl, _, World.drewN_drewN _ _ _⟩ | exact ⟨rfl, _, Eq.trans (World.drewN_drewN _ _ _) (congrArg (World.drewN _) (Nat.add_assoc _ _ _))⟩))); try go_wp2_with (first | (go_at_call 100; (with_reducible refine (stringslite_Index.calls a0 a1 t124 _ A3.out).mono ?_); rintro e w' ⟨rfl, ⟨nd, rfl⟩⟩; (try first | exact ⟨rfl, _, World.drewN_drewN _ _ _⟩ | exact ⟨rfl, _, Eq.trans (World.drewN_drewN _ _ _) (congrArg (World.drewN _) (Nat.add_assoc _ _ _))⟩))))
    go_ret3
    exact ⟨by first | rfl | (simp; done) | (simp [*]; done), by repeat (first | exact Drawn0.refl _ | apply Drawn0.step)⟩

/-! ### strings_Cut: function 91 -/
def strings_Cut.f (a0 : ByteArray) (a1 : ByteArray) : Option (ByteArray × ByteArray × Bool) := (stringslite_Cut.f a0 a1).bind fun bt125 => (some (bt125.1, bt125.2.1, bt125.2.2))
set_option maxHeartbeats 8000000 in
set_option maxRecDepth 100000 in
theorem strings_Cut.calls (a0 : ByteArray) (a1 : ByteArray) (r1 : ByteArray) (r2 : ByteArray) (r3 : Bool) (w : World) (h : strings_Cut.f a0 a1 = some (r1, r2, r3)) :
    Calls Tryd.prog 91 #[.string a0, .string a1] w fun e w' => e = .returned (.tuple #[.string r1, .string r2, .bool r3]) ∧ Drawn0 w w' := by
  have H : ((stringslite_Cut.f a0 a1).bind fun bt125 => (some (bt125.1, bt125.2.1, bt125.2.2))) = some (r1, r2, r3) := h
  clear h
  replace H := Option.bind_eq_some_iff.mp H
  obtain ⟨⟨t125, t126, t127⟩, A30, H⟩ := H
  replace H : (some (t125, t126, t127)) = some (r1, r2, r3) := H
  have A3 := Aside0.mk A30
  clear A30
  simp only [Option.some.injEq, Prod.mk.injEq] at H
  obtain ⟨rfl, rfl, rfl⟩ := H
  go_enter Tryd.func91, Tryd.ntmps91
  go_wp2_with (first | ((with_reducible refine gate_callee (f := 112) rfl ?_); refine goesL_ (some 9) rfl rfl Tryd.func112 (by kernel_rfl) rfl #[.string a0, .string a1] rfl (by (try simp only [List.map_toArray, List.map_cons, List.map_nil]); first | done | rfl | (simp only [List.length_drop, List.length_take]; rfl) | (simp; done)) ?_; (with_reducible refine (stringslite_Cut.calls a0 a1 t125 t126 t127 _ A3.out).mono ?_); rintro e w' ⟨rfl, ⟨nd, rfl⟩⟩; refine ⟨_, rfl, ?_⟩))
  go_ret3
  exact ⟨by first | rfl | (simp; done) | (simp [*]; done), by repeat (first | exact Drawn0.refl _ | apply Drawn0.step)⟩

/-! ### bytealg_LastIndexByteString: function 113 -/
def bytealg_LastIndexByteString.l0 : Nat → ByteArray → Int → Int → Option (Int)
  | 0, _, _, _ => none
  | k + 1, x0, x1, x5 => if x5 ≥ 0 then (if 0 ≤ x5 then (if x5 < (x0.size : Int) then (if (bt x0 x5) = x1 then (some x5) else (bytealg_LastIndexByteString.l0 k x0 x1 (wrap64 (x5 - 1)))) else (none)) else (none)) else (some (-1))
def bytealg_LastIndexByteString.f (k : Nat) (a0 : ByteArray) (a1 : Int) : Option (Int) := bytealg_LastIndexByteString.l0 k a0 a1 (wrap64 ((a0.size : Int) - 1))
theorem bytealg_LastIndexByteString.mono_l : ∀ k, (∀ y0 y1 y2, LeO (bytealg_LastIndexByteString.l0 k y0 y1 y2) (bytealg_LastIndexByteString.l0 (k + 1) y0 y1 y2))
  | 0 => fun _ _ _ r h => by simp [bytealg_LastIndexByteString.l0] at h
  | k + 1 => by
    have ih0 := bytealg_LastIndexByteString.mono_l k
    · intro y0 y1 y2
      unfold bytealg_LastIndexByteString.l0
      repeat' first
      | (with_reducible exact ih0 _ _ _)
      | (with_reducible exact LeO.refl _)
      | (with_reducible exact LeO.none _)
      | (with_reducible refine LeO.ite ?_ ?_)
      | (with_reducible refine LeO.bind ?_ (fun _ => ?_))
      | exact ih0 _ _ _
      | exact LeO.none _
      | refine LeO.ite ?_ ?_
      | refine LeO.bind ?_ (fun _ => ?_)
theorem bytealg_LastIndexByteString.mono : ∀ a0 a1 k, LeO (bytealg_LastIndexByteString.f k a0 a1) (bytealg_LastIndexByteString.f (k + 1) a0 a1) := by
  intro a0 a1 k
  have ih0 := bytealg_LastIndexByteString.mono_l k
  unfold bytealg_LastIndexByteString.f
  repeat' first
      | (with_reducible exact ih0 _ _ _)
      | (with_reducible exact LeO.refl _)
      | (with_reducible exact LeO.none _)
      | (with_reducible refine LeO.ite ?_ ?_)
      | (with_reducible refine LeO.bind ?_ (fun _ => ?_))
      | exact ih0 _ _ _
      | exact LeO.none _
      | refine LeO.ite ?_ ?_
      | refine LeO.bind ?_ (fun _ => ?_)
set_option maxHeartbeats 8000000 in
set_option maxRecDepth 100000 in
theorem bytealg_LastIndexByteString.calls (k : Nat) (a0 : ByteArray) (a1 : Int) (r : Int) (w : World) (h : bytealg_LastIndexByteString.f k a0 a1 = some r) :
    Calls Tryd.prog 113 #[.string a0, .int .u8 a1] w fun e w' => e = .returned (.int .i64 r) ∧ Drawn0 w w' := by
  have H : (bytealg_LastIndexByteString.l0 k a0 a1 (wrap64 ((a0.size : Int) - 1))) = some r := h
  clear h
  have H' := Aside0.mk H
  clear H
  go_enter Tryd.func113, Tryd.ntmps113
  go_wp2
  go_loopg [5] k (fun kq v5 w' => ∃ (x5_1 : Int), v5 = .int .i64 x5_1 ∧ Aside0 (bytealg_LastIndexByteString.l0 kq a0 a1 x5_1 = some r) ∧ Aside0 (kq ≤ k) ∧ Drawn0 w w')
  case atStart => exact ⟨(wrap64 ((a0.size : Int) - 1)), (by first | rfl | (simp; done) | (simp [*]; done)), H', ⟨Nat.le_refl _⟩, by repeat (first | exact Drawn0.refl _ | apply Drawn0.step)⟩
  case round =>
    clear H'
    try clear c1
    try clear p2
    obtain ⟨x5_1, rfl, HA, HK1, ⟨m1, rfl⟩⟩ := hrel
    cases gk with
    | zero => exact absurd HA.out (by simp [bytealg_LastIndexByteString.l0])
    | succ k1 =>
      have H := HA.out
      clear HA
      simp only [bytealg_LastIndexByteString.l0] at H
      by_cases c3 : x5_1 ≥ 0
      · rw [if_pos c3] at H
        have c3b0 : decide (0 ≤ x5_1) = true := decide_eq_true c3
        clear c3
        by_cases c4 : 0 ≤ x5_1
        · rw [if_pos c4] at H
          have c4b0 : decide (0 ≤ x5_1) = true := decide_eq_true c4
          clear c4
          by_cases c5 : x5_1 < (a0.size : Int)
          · rw [if_pos c5] at H
            have c5b0 : decide (x5_1 < (a0.size : Int)) = true := decide_eq_true c5
            clear c5
            by_cases c7 : (bt a0 x5_1) = a1
            · rw [if_pos c7] at H
              have c7b0 : ((bt a0 x5_1) == a1) = true := beq_iff_eq.mpr c7
              have c7b1 : ((bt a0 x5_1) != a1) = false := bne_eq_false_iff_eq.mpr c7
              clear c7
              obtain rfl := Option.some.inj H
              have p6 : 0 ≤ (x5_1 : Int) := of_decide_eq_true (by first | (with_reducible assumption) | assumption)
              have q6 : x5_1 < (a0.size : Int) := of_decide_eq_true (by first | (with_reducible assumption) | assumption)
              have hx6 := bt_at a0 x5_1
              replace p6 := eq_true p6
              replace q6 := eq_true q6
              go_wp2
              go_ret
              exact ⟨by first | rfl | (simp; done) | (simp [*]; done), by repeat (first | exact Drawn0.refl _ | apply Drawn0.step)⟩
            · rw [if_neg c7] at H
              have c7b0 : ((bt a0 x5_1) == a1) = false := beq_eq_false_iff_ne.mpr c7
              have c7b1 : ((bt a0 x5_1) != a1) = true := bne_iff_ne.mpr c7
              have H' := Aside0.mk H
              clear H
              have p6 : 0 ≤ (x5_1 : Int) := of_decide_eq_true (by first | (with_reducible assumption) | assumption)
              have q6 : x5_1 < (a0.size : Int) := of_decide_eq_true (by first | (with_reducible assumption) | assumption)
              have hx6 := bt_at a0 x5_1
              replace p6 := eq_true p6
              replace q6 := eq_true q6
              go_wp2
              go_roundg k1
              case measure => have := HK1.out; omega
              case rel => exact ⟨(wrap64 (x5_1 - 1)), (by first | rfl | (simp; done) | (simp [*]; done)), H', ⟨by have := HK1.out; omega⟩, by repeat (first | exact Drawn0.refl _ | apply Drawn0.step)⟩
          · rw [if_neg c5] at H
            exact absurd H (by simp)
        · rw [if_neg c4] at H
          exact absurd H (by simp)
      · rw [if_neg c3] at H
        have c3b0 : decide (0 ≤ x5_1) = false := decide_eq_false c3
        clear c3
        obtain rfl := Option.some.inj H
        go_wp2
        go_ret
        exact ⟨by first | rfl | (simp; done) | (simp [*]; done), by repeat (first | exact Drawn0.refl _ | apply Drawn0.step)⟩

/-! ### strings_LastIndexByte: function 92 -/
def strings_LastIndexByte.f (k : Nat) (a0 : ByteArray) (a1 : Int) : Option (Int) := (bytealg_LastIndexByteString.f k a0 a1).bind fun t128 => (some t128)
theorem strings_LastIndexByte.mono : ∀ a0 a1 k, LeO (strings_LastIndexByte.f k a0 a1) (strings_LastIndexByte.f (k + 1) a0 a1) := by
  intro a0 a1 k
  unfold strings_LastIndexByte.f
  repeat' first
      | (with_reducible exact bytealg_LastIndexByteString.mono _ _ _)
      | (with_reducible exact LeO.refl _)
      | (with_reducible exact LeO.none _)
      | (with_reducible refine LeO.ite ?_ ?_)
      | (with_reducible refine LeO.bind ?_ (fun _ => ?_))
      | exact bytealg_LastIndexByteString.mono _ _ _
      | exact LeO.none _
      | refine LeO.ite ?_ ?_
      | refine LeO.bind ?_ (fun _ => ?_)
set_option maxHeartbeats 8000000 in
set_option maxRecDepth 100000 in
theorem strings_LastIndexByte.calls (k : Nat) (a0 : ByteArray) (a1 : Int) (r : Int) (w : World) (h : strings_LastIndexByte.f k a0 a1 = some r) :
    Calls Tryd.prog 92 #[.string a0, .int .u8 a1] w fun e w' => e = .returned (.int .i64 r) ∧ Drawn0 w w' := by
  have H : ((bytealg_LastIndexByteString.f k a0 a1).bind fun t128 => (some t128)) = some r := h
  clear h
  replace H := Option.bind_eq_some_iff.mp H
  obtain ⟨t128, A30, H⟩ := H
  replace H : (some t128) = some r := H
  have A3 := Aside0.mk A30
  clear A30
  obtain rfl := Option.some.inj H
  go_enter Tryd.func92, Tryd.ntmps92
  go_wp2_with (first | ((with_reducible refine gate_callee (f := 113) rfl ?_); refine goesL_ (some 7) rfl rfl Tryd.func113 (by kernel_rfl) rfl #[.string a0, .int .u8 a1] rfl (by (try simp only [List.map_toArray, List.map_cons, List.map_nil]); first | done | rfl | (simp only [List.length_drop, List.length_take]; rfl) | (simp; done)) ?_; (with_reducible refine (bytealg_LastIndexByteString.calls k a0 a1 t128 _ A3.out).mono ?_); rintro e w' ⟨rfl, ⟨nd, rfl⟩⟩; refine ⟨_, rfl, ?_⟩))
  go_ret
  exact ⟨by first | rfl | (simp; done) | (simp [*]; done), by repeat (first | exact Drawn0.refl _ | apply Drawn0.step)⟩

/-! ### version_isDigit: function 93 -/
def version_isDigit.f (a0 : Int) : Option (Bool) := if a0 ≥ 48 then (some (decide (a0 ≤ 57))) else (some false)
set_option maxHeartbeats 8000000 in
set_option maxRecDepth 100000 in
theorem version_isDigit.calls (a0 : Int) (r : Bool) (w : World) (h : version_isDigit.f a0 = some r) :
    Calls Tryd.prog 93 #[.int .i32 a0] w fun e w' => e = .returned (.bool r) ∧ Drawn0 w w' := by
  have H : (if a0 ≥ 48 then (some (decide (a0 ≤ 57))) else (some false)) = some r := h
  clear h
  by_cases c2 : a0 ≥ 48
  · rw [if_pos c2] at H
    have c2b0 : decide (48 ≤ a0) = true := decide_eq_true c2
    clear c2
    obtain rfl := Option.some.inj H
    go_enter Tryd.func93, Tryd.ntmps93
    go_wp2
    go_ret
    exact ⟨by first | rfl | (simp; done) | (simp [*]; done), by repeat (first | exact Drawn0.refl _ | apply Drawn0.step)⟩
  · rw [if_neg c2] at H
    have c2b0 : decide (48 ≤ a0) = false := decide_eq_false c2
    clear c2
    obtain rfl := Option.some.inj H
    go_enter Tryd.func93, Tryd.ntmps93
    go_wp2
    go_ret
    exact ⟨by first | rfl | (simp; done) | (simp [*]; done), by repeat (first | exact Drawn0.refl _ | apply Drawn0.step)⟩

/-! ### version_isLetter: function 114 -/
def version_isLetter.f (a0 : Int) : Option (Bool) := if a0 ≥ 97 then (if a0 ≤ 122 then (some true) else (if a0 ≥ 65 then (some (decide (a0 ≤ 90))) else (some false))) else (if a0 ≥ 65 then (some (decide (a0 ≤ 90))) else (some false))
set_option maxHeartbeats 8000000 in
set_option maxRecDepth 100000 in
theorem version_isLetter.calls (a0 : Int) (r : Bool) (w : World) (h : version_isLetter.f a0 = some r) :
    Calls Tryd.prog 114 #[.int .i32 a0] w fun e w' => e = .returned (.bool r) ∧ Drawn0 w w' := by
  have H : (if a0 ≥ 97 then (if a0 ≤ 122 then (some true) else (if a0 ≥ 65 then (some (decide (a0 ≤ 90))) else (some false))) else (if a0 ≥ 65 then (some (decide (a0 ≤ 90))) else (some false))) = some r := h
  clear h
  by_cases c2 : a0 ≥ 97
  · rw [if_pos c2] at H
    have c2b0 : decide (97 ≤ a0) = true := decide_eq_true c2
    clear c2
    by_cases c3 : a0 ≤ 122
    · rw [if_pos c3] at H
      have c3b0 : decide (a0 ≤ 122) = true := decide_eq_true c3
      clear c3
      obtain rfl := Option.some.inj H
      go_enter Tryd.func114, Tryd.ntmps114
      go_wp2
      go_ret
      exact ⟨by first | rfl | (simp; done) | (simp [*]; done), by repeat (first | exact Drawn0.refl _ | apply Drawn0.step)⟩
    · rw [if_neg c3] at H
      have c3b0 : decide (a0 ≤ 122) = false := decide_eq_false c3
      clear c3
      by_cases c4 : a0 ≥ 65
      · rw [if_pos c4] at H
        have c4b0 : decide (65 ≤ a0) = true := decide_eq_true c4
        clear c4
        obtain rfl := Option.some.inj H
        go_enter Tryd.func114, Tryd.ntmps114
        go_wp2
        go_ret
        exact ⟨by first | rfl | (simp; done) | (simp [*]; done), by repeat (first | exact Drawn0.refl _ | apply Drawn0.step)⟩
      · rw [if_neg c4] at H
        have c4b0 : decide (65 ≤ a0) = false := decide_eq_false c4
        clear c4
        obtain rfl := Option.some.inj H
        go_enter Tryd.func114, Tryd.ntmps114
        go_wp2
        go_ret
        exact ⟨by first | rfl | (simp; done) | (simp [*]; done), by repeat (first | exact Drawn0.refl _ | apply Drawn0.step)⟩
  · rw [if_neg c2] at H
    have c2b0 : decide (97 ≤ a0) = false := decide_eq_false c2
    clear c2
    by_cases c5 : a0 ≥ 65
    · rw [if_pos c5] at H
      have c5b0 : decide (65 ≤ a0) = true := decide_eq_true c5
      clear c5
      obtain rfl := Option.some.inj H
      go_enter Tryd.func114, Tryd.ntmps114
      go_wp2
      go_ret
      exact ⟨by first | rfl | (simp; done) | (simp [*]; done), by repeat (first | exact Drawn0.refl _ | apply Drawn0.step)⟩
    · rw [if_neg c5] at H
      have c5b0 : decide (65 ≤ a0) = false := decide_eq_false c5
      clear c5
      obtain rfl := Option.some.inj H
      go_enter Tryd.func114, Tryd.ntmps114
      go_wp2
      go_ret
      exact ⟨by first | rfl | (simp; done) | (simp [*]; done), by repeat (first | exact Drawn0.refl _ | apply Drawn0.step)⟩

/-! ### version_hasRune: function 115 -/
/-- 'hasRune': does one of the text's runes equal r? -/
def version_hasRune.f (a0 : ByteArray) (a1 : Int) : Option (Bool) := some (!runesAll (fun c => decide ((c : Int) ≠ a1)) a0 a0.size 0)
set_option maxHeartbeats 1000000 in
set_option maxRecDepth 100000 in
theorem version_hasRune.calls (a0 : ByteArray) (a1 : Int) (r : Bool) (w : World) (h : version_hasRune.f a0 a1 = some r) :
    Calls Tryd.prog 115 #[.string a0, .int .i32 a1] w fun e w' => e = .returned (.bool r) ∧ Below w.heap.size w w' := by
  have Hr : Hid (r = !runesAll (fun c => decide ((c : Int) ≠ a1)) a0 a0.size 0) := by
    unfold version_hasRune.f at h; exact (Option.some.inj h).symm
  clear h
  go_enter Tryd.func115, Tryd.ntmps115
  go_wp2
  go_loopw [] (fun wr => ∃ pos fuel : Nat, Hid (wr = w.iter a0 pos) ∧ a0.size ≤ pos + fuel ∧ Hid (runesAll (fun c => decide ((c : Int) ≠ a1)) a0 a0.size 0 = runesAll (fun c => decide ((c : Int) ≠ a1)) a0 fuel pos)) (fun wr => a0.size - wr.iterPos w.heap.size)
  case atStart => exact ⟨0, a0.size, rfl, by omega, rfl⟩
  case round =>
    obtain ⟨pos, fuel, hw, hf, hr⟩ := hrel
    obtain rfl := hw.out
    clear hw
    by_cases hp : pos < a0.size
    · have hnx := fun ty => run_next_any (P := Tryd.prog) w a0 pos ty hp
      obtain ⟨f, rfl⟩ : ∃ f, fuel = f + 1 := ⟨fuel - 1, by omega⟩
      have hwd := width_pos a0 pos hp
      have Hnx := Lib.hid (hr.out.trans (runesAll_step _ a0 f pos hp))
      clear hr
      by_cases hc : ((Utf8.decode a0 pos).1 : Int) = a1
      · have hb : (((Utf8.decode a0 pos).1 : Int) == a1) = true := by simpa using hc
        have Hc := Lib.hid hc
        clear hc
        go_wp2
        go_ret
        refine ⟨?_, ((Below.refl _ w).alloc (Nat.le_refl _) _)⟩
        rw [Hr.out, Hnx.out]
        simp [Hc.out]
      · have hb : (((Utf8.decode a0 pos).1 : Int) == a1) = false := by simpa using hc
        have Hc := Lib.hid hc
        clear hc
        go_wp2
        go_roundw
        case rel =>
          refine ⟨pos + (Utf8.decode a0 pos).2, f, rfl, by omega, ?_⟩
          rw [Hid, Hnx.out]
          simp [Hc.out]
        case measure =>
          simp
          omega
    · have hnx := fun ty => run_next_end (P := Tryd.prog) w a0 pos ty hp
      have Hend := Lib.hid (hr.out.trans (runesAll_end _ a0 fuel pos hp))
      clear hr
      go_wp2
      go_ret
      refine ⟨?_, ((Below.refl _ w).alloc (Nat.le_refl _) _)⟩
      rw [Hr.out, Hend.out]
      rfl


/-! ### version_made: function 94 -/
def dgt (c : Int) : Bool := decide (48 ≤ c ∧ c ≤ 57)
def ltr (c : Int) : Bool := decide (97 ≤ c ∧ c ≤ 122) || decide (65 ≤ c ∧ c ≤ 90)
theorem dgt_f (c : Int) : version_isDigit.f c = some (dgt c) := by
  unfold version_isDigit.f dgt
  split
  · congr 1
    simp only [decide_eq_decide]
    omega
  · congr 1
    symm
    simp only [decide_eq_false_iff_not]
    omega
theorem ltr_f (c : Int) : version_isLetter.f c = some (ltr c) := by
  unfold version_isLetter.f ltr
  repeat' split
  all_goals
    congr 1
    rw [Bool.eq_iff_iff]
    simp
    omega
def hasR (s : ByteArray) (r : Int) : Bool := !runesAll (fun c => decide ((c : Int) ≠ r)) s s.size 0
/-- One rune of 'made'. -/
def madeP (a1 : Bool) (a2 : ByteArray) (c : Nat) : Bool := dgt c || (a1 && ltr c) || (decide ((c : Int) < 128) && hasR a2 c)
/-- 'made': all runes. -/
def version_made.f (a0 : ByteArray) (a1 : Bool) (a2 : ByteArray) : Option (Bool) := some (runesAll (madeP a1 a2) a0 a0.size 0)
theorem iterPos_of {w : World} {k : Nat} {s : ByteArray} {pos : Nat} (h : w.heap[k]? = some (.stringIter s pos)) : w.iterPos k = pos := by
  simp [World.iterPos, h]
set_option maxHeartbeats 4000000 in
set_option maxRecDepth 100000 in
theorem version_made.calls (a0 : ByteArray) (a1 : Bool) (a2 : ByteArray) (r : Bool) (w : World) (h : version_made.f a0 a1 a2 = some r) :
    Calls Tryd.prog 94 #[.string a0, .bool a1, .string a2] w fun e w' => e = .returned (.bool r) ∧ Below w.heap.size w w' := by
  have Hr : Hid (r = runesAll (madeP a1 a2) a0 a0.size 0) := (Option.some.inj h).symm
  clear h
  go_enter Tryd.func94, Tryd.ntmps94
  go_wp2
  go_loopw [] (fun wr => ∃ pos fuel : Nat, Hid (wr.heap[w.heap.size]? = some (.stringIter a0 pos)) ∧ Hid (Below w.heap.size w wr) ∧ a0.size ≤ pos + fuel ∧ Hid (runesAll (madeP a1 a2) a0 a0.size 0 = runesAll (madeP a1 a2) a0 fuel pos)) (fun wr => a0.size - wr.iterPos w.heap.size)
  case atStart => exact ⟨0, a0.size, World.iter_heap w a0 0, (Below.refl _ w).alloc (Nat.le_refl _) _, by omega, rfl⟩
  case round =>
    obtain ⟨pos, fuel, hit, hb, hf, hr⟩ := hrel
    have hsz : w.heap.size < wr.heap.size := (Array.getElem?_eq_some_iff.1 hit.out).1
    by_cases hp : pos < a0.size
    · have hnx : ∀ ty, (Instr.next (.pointer (some ⟨w.heap.size, 0, none⟩)) true ty).run Tryd.prog wr = _ := fun ty => Lib.run_next_any_at wr w.heap.size a0 pos ty hit.out hp
      obtain ⟨f, rfl⟩ : ∃ f, fuel = f + 1 := ⟨fuel - 1, by omega⟩
      have hwd := width_pos a0 pos hp
      have Hnx := Lib.hid (hr.out.trans (runesAll_step _ a0 f pos hp))
      clear hr
      have Hit2 := Lib.hid (Lib.iterAt_heap wr w.heap.size a0 pos (pos + (Utf8.decode a0 pos).2) hit.out)
      have Hb2 := Lib.hid (Lib.below_iterAt hb.out (k := w.heap.size) (Nat.le_refl _) a0 (pos + (Utf8.decode a0 pos).2))
      have hsz2 : w.heap.size < (wr.iterAt w.heap.size a0 (pos + (Utf8.decode a0 pos).2)).heap.size := by rw [Lib.iterAt_size]; omega
      have Hit0 := Lib.hid hit.out
      clear hit hb
      obtain ⟨d, Hd⟩ : ∃ d, Hid (version_isDigit.f ((Utf8.decode a0 pos).1 : Int) = some d ∧ d = dgt ((Utf8.decode a0 pos).1 : Int)) := ⟨_, dgt_f _, rfl⟩
      obtain ⟨l, Hl⟩ : ∃ l, Hid (version_isLetter.f ((Utf8.decode a0 pos).1 : Int) = some l ∧ l = ltr ((Utf8.decode a0 pos).1 : Int)) := ⟨_, ltr_f _, rfl⟩
      obtain ⟨m, Hm⟩ : ∃ m, Hid (version_hasRune.f a2 ((Utf8.decode a0 pos).1 : Int) = some m ∧ m = hasR a2 ((Utf8.decode a0 pos).1 : Int)) := ⟨_, rfl, rfl⟩
      obtain ⟨t, Ht⟩ : ∃ t, Hid (t = decide (((Utf8.decode a0 pos).1 : Int) < 128)) := ⟨_, rfl⟩
      have Hall : Hid (madeP a1 a2 (Utf8.decode a0 pos).1 = (d || (a1 && l) || (t && m))) := by
        unfold madeP; rw [Hd.out.2, Hl.out.2, Hm.out.2, Ht.out]; rfl
      have ht : decide (((Utf8.decode a0 pos).1 : Int) < 128) = t := Ht.out.symm
      have Hj := Lib.hid (show ∀ q, (d || (a1 && l) || (t && m)) = q → runesAll (madeP a1 a2) a0 a0.size 0 = (q && runesAll (madeP a1 a2) a0 f (pos + (Utf8.decode a0 pos).2)) from fun q hq => Hnx.out.trans (by rw [Hall.out, hq]))
      clear Hnx Hall
      have hd : ∀ b, b = d → version_isDigit.f ((Utf8.decode a0 pos).1 : Int) = some b := fun b e => by rw [e]; exact Hd.out.1
      have hl : ∀ b, b = l → version_isLetter.f ((Utf8.decode a0 pos).1 : Int) = some b := fun b e => by rw [e]; exact Hl.out.1
      have hm : ∀ b, b = m → version_hasRune.f a2 ((Utf8.decode a0 pos).1 : Int) = some b := fun b e => by rw [e]; exact Hm.out.1
      have Hdd := Lib.hid hd; have Hll := Lib.hid hl; have Hmm := Lib.hid hm
      clear hd hl hm Hd Hl Hm Ht
      cases d <;> cases a1 <;> cases l <;> cases t <;> cases m
      all_goals
        have Hq := Lib.hid (Hj.out _ rfl)
        clear Hj
        go_wp2_with (first | (go_at_call 93; refine (version_isDigit.calls _ _ _ (Hdd.out _ rfl)).mono ?_; rintro e w' ⟨rfl, ⟨nd, rfl⟩⟩) | (go_at_call 114; refine (version_isLetter.calls _ _ _ (Hll.out _ rfl)).mono ?_; rintro e w' ⟨rfl, ⟨nd, rfl⟩⟩) | (go_at_call 115; refine (version_hasRune.calls _ _ _ _ (Hmm.out _ rfl)).mono ?_; rintro e w' ⟨rfl, hbw⟩; have Hbw := Lib.hid hbw; clear hbw))
      all_goals first
        | (go_ret
           obtain rfl := Hr.out
           refine ⟨by rw [Hq.out]; rfl, ?_⟩
           first
             | (refine below_then ?_ ?_ Hbw.out
                · repeat (first | exact Hb2.out | apply pw_below_drewN)
                · exact Nat.le_of_lt hsz2)
             | (repeat (first | exact Hb2.out | apply pw_below_drewN)))
        | (have Hit3 := Lib.hid ((Hbw.out.block w.heap.size hsz2).trans Hit2.out)
           go_roundw
           case rel =>
             refine ⟨pos + (Utf8.decode a0 pos).2, f, Hit3.out, ?_, by omega, Hq.out⟩
             refine below_then ?_ ?_ Hbw.out
             · repeat (first | exact Hb2.out | apply pw_below_drewN)
             · exact Nat.le_of_lt hsz2
           case measure =>
             simp only [World.iterPos, Hit0.out, Hit3.out]
             omega)
        | (have Hit3 := Hit2
           go_roundw
           case rel =>
             refine ⟨pos + (Utf8.decode a0 pos).2, f, Hit2.out, ?_, by omega, Hq.out⟩
             repeat (first | exact Hb2.out | apply pw_below_drewN)
           case measure =>
             rw [iterPos_of Hit0.out]
             refine Nat.lt_of_le_of_lt (Nat.le_of_eq (congrArg (a0.size - ·) (iterPos_of Hit2.out))) ?_
             omega)
    · have hnx : ∀ ty, (Instr.next (.pointer (some ⟨w.heap.size, 0, none⟩)) true ty).run Tryd.prog wr = _ := fun ty => Lib.run_next_end_at wr w.heap.size a0 pos ty hit.out hp
      have Hend := Lib.hid (hr.out.trans (runesAll_end _ a0 fuel pos hp))
      clear hr
      go_wp2
      go_ret
      obtain rfl := Hr.out
      exact ⟨by rw [Hend.out]; rfl, hb.out⟩


end Go.Proofs.YtmocooihkobdjaaDoor.B
