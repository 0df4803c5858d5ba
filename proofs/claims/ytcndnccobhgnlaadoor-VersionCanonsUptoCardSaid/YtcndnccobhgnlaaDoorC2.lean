-- printed by wip/myprint.py of this session over the kit's print.py; Lean checks it
import Derived.Test.YtcndnccobhgnlaaDoorC0
namespace Go.Proofs.YtcndnccobhgnlaaDoor.C
open Go.RowKit Go.Proofs.YtcndnccobhgnlaaDoorW.PrintWords Go.Proofs.YtcndnccobhgnlaaDoorW.PrintLast Go.Proofs.YtcndnccobhgnlaaDoorW.PrintMore
attribute [local go_sem] max2_int min2_int max_two min_two max_three min_three max_four min_four   -- for this text's walks alone
set_option linter.unusedVariables false
set_option linter.unusedSimpArgs false

/-! ### stringslite_IndexByte: function 46 -/
/-- 'stringslite.IndexByte'. -/
def stringslite_IndexByte.f (a0 : ByteArray) (a1 : Int) : Option (Int) := some (Lib.indexByte a0.data.toList a1.toNat.toUInt8)
set_option maxHeartbeats 1000000 in
set_option maxRecDepth 100000 in
theorem stringslite_IndexByte.calls (a0 : ByteArray) (a1 : Int) (r : Int) (w : World) (h : stringslite_IndexByte.f a0 a1 = some r) :
    Calls Tryd.prog 46 #[.string a0, .int .u8 a1] w fun e w' => e = .returned (.int .i64 r) ∧ Drawn0 w w' := by
  have Hr : Hid (r = Lib.indexByte a0.data.toList a1.toNat.toUInt8) := (Option.some.inj h).symm
  clear h
  go_enter Tryd.func46, Tryd.ntmps46
  go_wp2
  rw [run_callFunc_extern Tryd.func53 (by kernel_rfl) (by kernel_rfl) (by kernel_rfl) (e := Extern.BytealgIndexByte.indexByte) (by kernel_rfl), Lib.run_indexByteString]
  simp only [Result.andThen]
  rw [Oper.upon_value]
  go_wp2
  go_ret
  obtain rfl := Hr.out
  exact ⟨rfl, Drawn0.refl _⟩


/-! ### stringslite_Index: function 40 -/
/-- 'stringslite.Index', of a text of one byte alone. -/
def stringslite_Index.f (a0 : ByteArray) (a1 : ByteArray) : Option (Int) := if a1.size = 1 then some (Lib.indexByte a0.data.toList (a1.data.getD 0 0)) else none
set_option maxHeartbeats 1000000 in
set_option maxRecDepth 100000 in
theorem stringslite_Index.calls (a0 : ByteArray) (a1 : ByteArray) (r : Int) (w : World) (h : stringslite_Index.f a0 a1 = some r) :
    Calls Tryd.prog 40 #[.string a0, .string a1] w fun e w' => e = .returned (.int .i64 r) ∧ Drawn0 w w' := by
  unfold stringslite_Index.f at h
  split at h
  case isFalse => cases h
  case isTrue h1 =>
    obtain ⟨⟨l⟩⟩ := a1
    obtain ⟨c, rfl⟩ : ∃ c, l = [c] := by
      have : l.length = 1 := h1
      match l, this with
      | [c], _ => exact ⟨c, rfl⟩
    clear h1
    have Hr : Hid (r = Lib.indexByte a0.data.toList c) := (Option.some.inj h).symm
    clear h
    go_enter Tryd.func40, Tryd.ntmps40
    go_wp2_with (go_at_call 46; refine (stringslite_IndexByte.calls _ _ _ _ rfl).mono ?_; rintro e w' ⟨rfl, ⟨nd, rfl⟩⟩)
    · have h : ([c] == a0.toList) = true := by assumption
      go_ret
      refine ⟨?_, Drawn0.refl _⟩
      have e : a0.data.toList = [c] := by rw [← Lib.toList_data]; exact (beq_iff_eq.1 h).symm
      rw [Hr.out, e]
      simp [Lib.indexByte]
    · go_ret
      obtain rfl := Hr.out
      exact ⟨rfl, ⟨⟨_, rfl⟩⟩⟩


/-! ### stringslite_Cut: function 33 -/
def stringslite_Cut.f (a0 : ByteArray) (a1 : ByteArray) : Option (ByteArray × ByteArray × Bool) := (stringslite_Index.f a0 a1).bind fun t101 => (if t101 ≥ 0 then (if 0 ≤ t101 then (if t101 ≤ (a0.size : Int) then (if 0 ≤ (wrap64 (t101 + (a1.size : Int))) then (if (wrap64 (t101 + (a1.size : Int))) ≤ (a0.size : Int) then (some (a0.extract 0 (t101 : Int).toNat, a0.extract ((wrap64 (t101 + (a1.size : Int))) : Int).toNat a0.size, true)) else (none)) else (none)) else (none)) else (none)) else (some (a0, (⟨#[]⟩ : ByteArray), false)))
set_option maxHeartbeats 8000000 in
set_option maxRecDepth 100000 in
theorem stringslite_Cut.calls (a0 : ByteArray) (a1 : ByteArray) (r1 : ByteArray) (r2 : ByteArray) (r3 : Bool) (w : World) (h : stringslite_Cut.f a0 a1 = some (r1, r2, r3)) :
    Calls Tryd.prog 33 #[.string a0, .string a1] w fun e w' => e = .returned (.tuple #[.string r1, .string r2, .bool r3]) ∧ Drawn0 w w' := by
  have H : ((stringslite_Index.f a0 a1).bind fun t101 => (if t101 ≥ 0 then (if 0 ≤ t101 then (if t101 ≤ (a0.size : Int) then (if 0 ≤ (wrap64 (t101 + (a1.size : Int))) then (if (wrap64 (t101 + (a1.size : Int))) ≤ (a0.size : Int) then (some (a0.extract 0 (t101 : Int).toNat, a0.extract ((wrap64 (t101 + (a1.size : Int))) : Int).toNat a0.size, true)) else (none)) else (none)) else (none)) else (none)) else (some (a0, (⟨#[]⟩ : ByteArray), false)))) = some (r1, r2, r3) := h
  clear h
  replace H := Option.bind_eq_some_iff.mp H
  obtain ⟨t101, A30, H⟩ := H
  replace H : (if t101 ≥ 0 then (if 0 ≤ t101 then (if t101 ≤ (a0.size : Int) then (if 0 ≤ (wrap64 (t101 + (a1.size : Int))) then (if (wrap64 (t101 + (a1.size : Int))) ≤ (a0.size : Int) then (some (a0.extract 0 (t101 : Int).toNat, a0.extract ((wrap64 (t101 + (a1.size : Int))) : Int).toNat a0.size, true)) else (none)) else (none)) else (none)) else (none)) else (some (a0, (⟨#[]⟩ : ByteArray), false))) = some (r1, r2, r3) := H
  have A3 := Aside0.mk A30
  clear A30
  by_cases c4 : t101 ≥ 0
  · rw [if_pos c4] at H
    have c4b0 : decide (0 ≤ t101) = true := decide_eq_true c4
    clear c4
    by_cases c5 : 0 ≤ t101
    · rw [if_pos c5] at H
      have c5b0 := eq_true c5
      have c5b1 : decide (0 ≤ t101) = true := decide_eq_true c5
      clear c5
      by_cases c6 : t101 ≤ (a0.size : Int)
      · rw [if_pos c6] at H
        have c6b0 := eq_true c6
        have c6b1 : decide (t101 ≤ (a0.size : Int)) = true := decide_eq_true c6
        clear c6
        obtain ⟨ji7, hji7⟩ : ∃ j_ : Int, (wrap64 (t101 + (a1.size : Int))) = j_ := ⟨_, rfl⟩
        replace H : (if 0 ≤ (ji7) then (if (ji7) ≤ (a0.size : Int) then (some (a0.extract 0 (t101 : Int).toNat, a0.extract ((ji7) : Int).toNat a0.size, true)) else (none)) else (none)) = some (r1, r2, r3) := by first | (rw [hji7] at H; exact H) | (simp only [hji7] at H ⊢; exact H)
        (try rw [hji7] at A3)
        have hji7w : (IntKind.i64.wrap (t101 + (a1.size : Int))) = ji7 := (i64_w _).trans hji7
        by_cases c8 : 0 ≤ (ji7)
        · rw [if_pos c8] at H
          have c8b0 := eq_true c8
          have c8b1 : decide (0 ≤ (ji7)) = true := decide_eq_true c8
          clear c8
          by_cases c9 : (ji7) ≤ (a0.size : Int)
          · rw [if_pos c9] at H
            have c9b0 := eq_true c9
            have c9b1 : decide ((ji7) ≤ (a0.size : Int)) = true := decide_eq_true c9
            clear c9
            simp only [Option.some.injEq, Prod.mk.injEq] at H
            obtain ⟨rfl, rfl, rfl⟩ := H
            go_enter Tryd.func33, Tryd.ntmps33
            go_wp2_with (first | (go_at_call 40; (with_reducible refine (stringslite_Index.calls a0 a1 t101 _ A3.out).mono ?_); rintro e w' ⟨rfl, ⟨nd, rfl⟩⟩; (try first | exact ⟨rfl, _, World.drewN_drewN _ _ _⟩ | exact ⟨rfl, _, Eq.trans (World.drewN_drewN _ _ _) (congrArg (World.drewN _) (Nat.add_assoc _ _ _))⟩)))
            repeat (go_quiet (first | (go_at_call 40; (with_reducible refine (stringslite_Index.calls a0 a1 t101 _ A3.out).mono ?_); rintro e w' ⟨rfl, ⟨nd, rfl⟩⟩; (try first | exact ⟨rfl, _, World.drewN_drewN _ _ _⟩ | exact ⟨rfl, _, Eq.trans (World.drewN_drewN _ _ _) (congrArg (World.drewN _) (Nat.add_assoc _ _ _))⟩))); try go_wp2_with (first | (go_at_call 40; (with_reducible refine (stringslite_Index.calls a0 a1 t101 _ A3.out).mono ?_); rintro e w' ⟨rfl, ⟨nd, rfl⟩⟩; (try first | exact ⟨rfl, _, World.drewN_drewN _ _ _⟩ | exact ⟨rfl, _, Eq.trans (World.drewN_drewN _ _ _) (congrArg (World.drewN _) (Nat.add_assoc _ _ _))⟩))))
            go_ret3
            exact ⟨by first | rfl | (simp; done) | (simp only [← hji7] <;> (first | rfl | simp)) | (simp [*]; done), by repeat (first | exact Drawn0.refl _ | apply Drawn0.step)⟩
          · rw [if_neg c9] at H
            exact absurd H (by simp)
        · rw [if_neg c8] at H
          exact absurd H (by simp)
      · rw [if_neg c6] at H
        exact absurd H (by simp)
    · rw [if_neg c5] at H
      exact absurd H (by simp)
  · rw [if_neg c4] at H
    have c4b0 : decide (0 ≤ t101) = false := decide_eq_false c4
    clear c4
    simp only [Option.some.injEq, Prod.mk.injEq] at H
    obtain ⟨rfl, rfl, rfl⟩ := H
    go_enter Tryd.func33, Tryd.ntmps33
    go_wp2_with (first | (go_at_call 40; (with_reducible refine (stringslite_Index.calls a0 a1 t101 _ A3.out).mono ?_); rintro e w' ⟨rfl, ⟨nd, rfl⟩⟩; (try first | exact ⟨rfl, _, World.drewN_drewN _ _ _⟩ | exact ⟨rfl, _, Eq.trans (World.drewN_drewN _ _ _) (congrArg (World.drewN _) (Nat.add_assoc _ _ _))⟩)))
    repeat (go_quiet (first | (go_at_call 40; (with_reducible refine (stringslite_Index.calls a0 a1 t101 _ A3.out).mono ?_); rintro e w' ⟨rfl, ⟨nd, rfl⟩⟩; (try first | exact ⟨rfl, _, World.drewN_drewN _ _ _⟩ | exact ⟨rfl, _, Eq.trans (World.drewN_drewN _ _ _) (congrArg (World.drewN _) (Nat.add_assoc _ _ _))⟩))); try go_wp2_with (first | (go_at_call 40; (with_reducible refine (stringslite_Index.calls a0 a1 t101 _ A3.out).mono ?_); rintro e w' ⟨rfl, ⟨nd, rfl⟩⟩; (try first | exact ⟨rfl, _, World.drewN_drewN _ _ _⟩ | exact ⟨rfl, _, Eq.trans (World.drewN_drewN _ _ _) (congrArg (World.drewN _) (Nat.add_assoc _ _ _))⟩))))
    go_ret3
    exact ⟨by first | rfl | (simp; done) | (simp [*]; done), by repeat (first | exact Drawn0.refl _ | apply Drawn0.step)⟩

/-! ### strings_Cut: function 19 -/
def strings_Cut.f (a0 : ByteArray) (a1 : ByteArray) : Option (ByteArray × ByteArray × Bool) := (stringslite_Cut.f a0 a1).bind fun bt102 => (some (bt102.1, bt102.2.1, bt102.2.2))
set_option maxHeartbeats 8000000 in
set_option maxRecDepth 100000 in
theorem strings_Cut.calls (a0 : ByteArray) (a1 : ByteArray) (r1 : ByteArray) (r2 : ByteArray) (r3 : Bool) (w : World) (h : strings_Cut.f a0 a1 = some (r1, r2, r3)) :
    Calls Tryd.prog 19 #[.string a0, .string a1] w fun e w' => e = .returned (.tuple #[.string r1, .string r2, .bool r3]) ∧ Drawn0 w w' := by
  have H : ((stringslite_Cut.f a0 a1).bind fun bt102 => (some (bt102.1, bt102.2.1, bt102.2.2))) = some (r1, r2, r3) := h
  clear h
  replace H := Option.bind_eq_some_iff.mp H
  obtain ⟨⟨t102, t103, t104⟩, A30, H⟩ := H
  replace H : (some (t102, t103, t104)) = some (r1, r2, r3) := H
  have A3 := Aside0.mk A30
  clear A30
  simp only [Option.some.injEq, Prod.mk.injEq] at H
  obtain ⟨rfl, rfl, rfl⟩ := H
  go_enter Tryd.func19, Tryd.ntmps19
  go_wp2_with (first | ((with_reducible refine gate_callee (f := 33) rfl ?_); refine goesL_ (some 9) rfl rfl Tryd.func33 (by kernel_rfl) rfl #[.string a0, .string a1] rfl (by (try simp only [List.map_toArray, List.map_cons, List.map_nil]); first | done | rfl | (simp only [List.length_drop, List.length_take]; rfl) | (simp; done)) ?_; (with_reducible refine (stringslite_Cut.calls a0 a1 t102 t103 t104 _ A3.out).mono ?_); rintro e w' ⟨rfl, ⟨nd, rfl⟩⟩; refine ⟨_, rfl, ?_⟩))
  go_ret3
  exact ⟨by first | rfl | (simp; done) | (simp [*]; done), by repeat (first | exact Drawn0.refl _ | apply Drawn0.step)⟩

/-! ### bytealg_LastIndexByteString: function 34 -/
def bytealg_LastIndexByteString.l0 : Nat → ByteArray → Int → Int → Option (Int)
  | 0, _, _, _ => none
  | k + 1, x0, x1, x5 => if x5 ≥ 0 then (if 0 ≤ x5 then (if x5 < (x0.size : Int) then (if (bt x0 x5) = x1 then (some x5) else (bytealg_LastIndexByteString.l0 k x0 x1 (wrap64 (x5 - 1)))) else (none)) else (none)) else (some (-1))
def bytealg_LastIndexByteString.f (k : Nat) (a0 : ByteArray) (a1 : Int) : Option (Int) := bytealg_LastIndexByteString.l0 k a0 a1 (wrap64 ((a0.size : Int) - 1))
theorem bytealg_LastIndexByteString.mono_l : ∀ k, (∀ y0 y1 y2, LeO (bytealg_LastIndexByteString.l0 k y0 y1 y2) (bytealg_LastIndexByteString.l0 (k + 1) y0 y1 y2))
  | 0 => fun _ _ _ r h => by simp [bytealg_LastIndexByteString.l0] at h
  | k + 1 => by
    have ih0 := bytealg_LastIndexByteString.mono_l k
    · intro y0 y1 y2
      unfold bytealg_LastIndexByteString.l0
      repeat' first
      | (with_reducible exact ih0 _ _ _)
      | (with_reducible exact LeO.refl _)
      | (with_reducible exact LeO.none _)
      | (with_reducible refine LeO.ite ?_ ?_)
      | (with_reducible refine LeO.bind ?_ (fun _ => ?_))
      | exact ih0 _ _ _
      | exact LeO.none _
      | refine LeO.ite ?_ ?_
      | refine LeO.bind ?_ (fun _ => ?_)
theorem bytealg_LastIndexByteString.mono : ∀ a0 a1 k, LeO (bytealg_LastIndexByteString.f k a0 a1) (bytealg_LastIndexByteString.f (k + 1) a0 a1) := by
  intro a0 a1 k
  have ih0 := bytealg_LastIndexByteString.mono_l k
  unfold bytealg_LastIndexByteString.f
  repeat' first
      | (with_reducible exact ih0 _ _ _)
      | (with_reducible exact LeO.refl _)
      | (with_reducible exact LeO.none _)
      | (with_reducible refine LeO.ite ?_ ?_)
      | (with_reducible refine LeO.bind ?_ (fun _ => ?_))
      | exact ih0 _ _ _
      | exact LeO.none _
      | refine LeO.ite ?_ ?_
      | refine LeO.bind ?_ (fun _ => ?_)
set_option maxHeartbeats 8000000 in
set_option maxRecDepth 100000 in
theorem bytealg_LastIndexByteString.calls (k : Nat) (a0 : ByteArray) (a1 : Int) (r : Int) (w : World) (h : bytealg_LastIndexByteString.f k a0 a1 = some r) :
    Calls Tryd.prog 34 #[.string a0, .int .u8 a1] w fun e w' => e = .returned (.int .i64 r) ∧ Drawn0 w w' := by
  have H : (bytealg_LastIndexByteString.l0 k a0 a1 (wrap64 ((a0.size : Int) - 1))) = some r := h
  clear h
  have H' := Aside0.mk H
  clear H
  go_enter Tryd.func34, Tryd.ntmps34
  go_wp2
  go_loopg [5] k (fun kq v5 w' => ∃ (x5_1 : Int), v5 = .int .i64 x5_1 ∧ Aside0 (bytealg_LastIndexByteString.l0 kq a0 a1 x5_1 = some r) ∧ Aside0 (kq ≤ k) ∧ Drawn0 w w')
  case atStart => exact ⟨(wrap64 ((a0.size : Int) - 1)), (by first | rfl | (simp; done) | (simp [*]; done)), H', ⟨Nat.le_refl _⟩, by repeat (first | exact Drawn0.refl _ | apply Drawn0.step)⟩
  case round =>
    clear H'
    try clear p2
    obtain ⟨x5_1, rfl, HA, HK1, ⟨m1, rfl⟩⟩ := hrel
    cases gk with
    | zero => exact absurd HA.out (by simp [bytealg_LastIndexByteString.l0])
    | succ k1 =>
      have H := HA.out
      clear HA
      simp only [bytealg_LastIndexByteString.l0] at H
      by_cases c3 : x5_1 ≥ 0
      · rw [if_pos c3] at H
        have c3b0 : decide (0 ≤ x5_1) = true := decide_eq_true c3
        clear c3
        by_cases c4 : 0 ≤ x5_1
        · rw [if_pos c4] at H
          have c4b0 : decide (0 ≤ x5_1) = true := decide_eq_true c4
          clear c4
          by_cases c5 : x5_1 < (a0.size : Int)
          · rw [if_pos c5] at H
            have c5b0 : decide (x5_1 < (a0.size : Int)) = true := decide_eq_true c5
            clear c5
            by_cases c7 : (bt a0 x5_1) = a1
            · rw [if_pos c7] at H
              have c7b0 : ((bt a0 x5_1) == a1) = true := beq_iff_eq.mpr c7
              have c7b1 : ((bt a0 x5_1) != a1) = false := bne_eq_false_iff_eq.mpr c7
              clear c7
              obtain rfl := Option.some.inj H
              have p6 : 0 ≤ (x5_1 : Int) := of_decide_eq_true (by first | (with_reducible assumption) | assumption)
              have q6 : x5_1 < (a0.size : Int) := of_decide_eq_true (by first | (with_reducible assumption) | assumption)
              have hx6 := bt_at a0 x5_1
              replace p6 := eq_true p6
              replace q6 := eq_true q6
              go_wp2
              go_ret
              exact ⟨by first | rfl | (simp; done) | (simp [*]; done), by repeat (first | exact Drawn0.refl _ | apply Drawn0.step)⟩
            · rw [if_neg c7] at H
              have c7b0 : ((bt a0 x5_1) == a1) = false := beq_eq_false_iff_ne.mpr c7
              have c7b1 : ((bt a0 x5_1) != a1) = true := bne_iff_ne.mpr c7
              have H' := Aside0.mk H
              clear H
              have p6 : 0 ≤ (x5_1 : Int) := of_decide_eq_true (by first | (with_reducible assumption) | assumption)
              have q6 : x5_1 < (a0.size : Int) := of_decide_eq_true (by first | (with_reducible assumption) | assumption)
              have hx6 := bt_at a0 x5_1
              replace p6 := eq_true p6
              replace q6 := eq_true q6
              go_wp2
              go_roundg k1
              case measure => have := HK1.out; omega
              case rel => exact ⟨(wrap64 (x5_1 - 1)), (by first | rfl | (simp; done) | (simp [*]; done)), H', ⟨by have := HK1.out; omega⟩, by repeat (first | exact Drawn0.refl _ | apply Drawn0.step)⟩
          · rw [if_neg c5] at H
            exact absurd H (by simp)
        · rw [if_neg c4] at H
          exact absurd H (by simp)
      · rw [if_neg c3] at H
        have c3b0 : decide (0 ≤ x5_1) = false := decide_eq_false c3
        clear c3
        obtain rfl := Option.some.inj H
        go_wp2
        go_ret
        exact ⟨by first | rfl | (simp; done) | (simp [*]; done), by repeat (first | exact Drawn0.refl _ | apply Drawn0.step)⟩

/-! ### strings_LastIndexByte: function 20 -/
def strings_LastIndexByte.f (k : Nat) (a0 : ByteArray) (a1 : Int) : Option (Int) := (bytealg_LastIndexByteString.f k a0 a1).bind fun t105 => (some t105)
theorem strings_LastIndexByte.mono : ∀ a0 a1 k, LeO (strings_LastIndexByte.f k a0 a1) (strings_LastIndexByte.f (k + 1) a0 a1) := by
  intro a0 a1 k
  unfold strings_LastIndexByte.f
  repeat' first
      | (with_reducible exact bytealg_LastIndexByteString.mono _ _ _)
      | (with_reducible exact LeO.refl _)
      | (with_reducible exact LeO.none _)
      | (with_reducible refine LeO.ite ?_ ?_)
      | (with_reducible refine LeO.bind ?_ (fun _ => ?_))
      | exact bytealg_LastIndexByteString.mono _ _ _
      | exact LeO.none _
      | refine LeO.ite ?_ ?_
      | refine LeO.bind ?_ (fun _ => ?_)
set_option maxHeartbeats 8000000 in
set_option maxRecDepth 100000 in
theorem strings_LastIndexByte.calls (k : Nat) (a0 : ByteArray) (a1 : Int) (r : Int) (w : World) (h : strings_LastIndexByte.f k a0 a1 = some r) :
    Calls Tryd.prog 20 #[.string a0, .int .u8 a1] w fun e w' => e = .returned (.int .i64 r) ∧ Drawn0 w w' := by
  have H : ((bytealg_LastIndexByteString.f k a0 a1).bind fun t105 => (some t105)) = some r := h
  clear h
  replace H := Option.bind_eq_some_iff.mp H
  obtain ⟨t105, A30, H⟩ := H
  replace H : (some t105) = some r := H
  have A3 := Aside0.mk A30
  clear A30
  obtain rfl := Option.some.inj H
  go_enter Tryd.func20, Tryd.ntmps20
  go_wp2_with (first | ((with_reducible refine gate_callee (f := 34) rfl ?_); refine goesL_ (some 7) rfl rfl Tryd.func34 (by kernel_rfl) rfl #[.string a0, .int .u8 a1] rfl (by (try simp only [List.map_toArray, List.map_cons, List.map_nil]); first | done | rfl | (simp only [List.length_drop, List.length_take]; rfl) | (simp; done)) ?_; (with_reducible refine (bytealg_LastIndexByteString.calls k a0 a1 t105 _ A3.out).mono ?_); rintro e w' ⟨rfl, ⟨nd, rfl⟩⟩; refine ⟨_, rfl, ?_⟩))
  go_ret
  exact ⟨by first | rfl | (simp; done) | (simp [*]; done), by repeat (first | exact Drawn0.refl _ | apply Drawn0.step)⟩

/-! ### version_isDigit: function 21 -/
def version_isDigit.f (a0 : Int) : Option (Bool) := if a0 ≥ 48 then (some (decide (a0 ≤ 57))) else (some false)
set_option maxHeartbeats 8000000 in
set_option maxRecDepth 100000 in
theorem version_isDigit.calls (a0 : Int) (r : Bool) (w : World) (h : version_isDigit.f a0 = some r) :
    Calls Tryd.prog 21 #[.int .i32 a0] w fun e w' => e = .returned (.bool r) ∧ Drawn0 w w' := by
  have H : (if a0 ≥ 48 then (some (decide (a0 ≤ 57))) else (some false)) = some r := h
  clear h
  by_cases c2 : a0 ≥ 48
  · rw [if_pos c2] at H
    have c2b0 : decide (48 ≤ a0) = true := decide_eq_true c2
    clear c2
    obtain rfl := Option.some.inj H
    go_enter Tryd.func21, Tryd.ntmps21
    go_wp2
    go_ret
    exact ⟨by first | rfl | (simp; done) | (simp [*]; done), by repeat (first | exact Drawn0.refl _ | apply Drawn0.step)⟩
  · rw [if_neg c2] at H
    have c2b0 : decide (48 ≤ a0) = false := decide_eq_false c2
    clear c2
    obtain rfl := Option.some.inj H
    go_enter Tryd.func21, Tryd.ntmps21
    go_wp2
    go_ret
    exact ⟨by first | rfl | (simp; done) | (simp [*]; done), by repeat (first | exact Drawn0.refl _ | apply Drawn0.step)⟩

/-! ### version_isLetter: function 35 -/
def version_isLetter.f (a0 : Int) : Option (Bool) := if a0 ≥ 97 then (if a0 ≤ 122 then (some true) else (if a0 ≥ 65 then (some (decide (a0 ≤ 90))) else (some false))) else (if a0 ≥ 65 then (some (decide (a0 ≤ 90))) else (some false))
set_option maxHeartbeats 8000000 in
set_option maxRecDepth 100000 in
theorem version_isLetter.calls (a0 : Int) (r : Bool) (w : World) (h : version_isLetter.f a0 = some r) :
    Calls Tryd.prog 35 #[.int .i32 a0] w fun e w' => e = .returned (.bool r) ∧ Drawn0 w w' := by
  have H : (if a0 ≥ 97 then (if a0 ≤ 122 then (some true) else (if a0 ≥ 65 then (some (decide (a0 ≤ 90))) else (some false))) else (if a0 ≥ 65 then (some (decide (a0 ≤ 90))) else (some false))) = some r := h
  clear h
  by_cases c2 : a0 ≥ 97
  · rw [if_pos c2] at H
    have c2b0 : decide (97 ≤ a0) = true := decide_eq_true c2
    clear c2
    by_cases c3 : a0 ≤ 122
    · rw [if_pos c3] at H
      have c3b0 : decide (a0 ≤ 122) = true := decide_eq_true c3
      clear c3
      obtain rfl := Option.some.inj H
      go_enter Tryd.func35, Tryd.ntmps35
      go_wp2
      go_ret
      exact ⟨by first | rfl | (simp; done) | (simp [*]; done), by repeat (first | exact Drawn0.refl _ | apply Drawn0.step)⟩
    · rw [if_neg c3] at H
      have c3b0 : decide (a0 ≤ 122) = false := decide_eq_false c3
      clear c3
      by_cases c4 : a0 ≥ 65
      · rw [if_pos c4] at H
        have c4b0 : decide (65 ≤ a0) = true := decide_eq_true c4
        clear c4
        obtain rfl := Option.some.inj H
        go_enter Tryd.func35, Tryd.ntmps35
        go_wp2
        go_ret
        exact ⟨by first | rfl | (simp; done) | (simp [*]; done), by repeat (first | exact Drawn0.refl _ | apply Drawn0.step)⟩
      · rw [if_neg c4] at H
        have c4b0 : decide (65 ≤ a0) = false := decide_eq_false c4
        clear c4
        obtain rfl := Option.some.inj H
        go_enter Tryd.func35, Tryd.ntmps35
        go_wp2
        go_ret
        exact ⟨by first | rfl | (simp; done) | (simp [*]; done), by repeat (first | exact Drawn0.refl _ | apply Drawn0.step)⟩
  · rw [if_neg c2] at H
    have c2b0 : decide (97 ≤ a0) = false := decide_eq_false c2
    clear c2
    by_cases c5 : a0 ≥ 65
    · rw [if_pos c5] at H
      have c5b0 : decide (65 ≤ a0) = true := decide_eq_true c5
      clear c5
      obtain rfl := Option.some.inj H
      go_enter Tryd.func35, Tryd.ntmps35
      go_wp2
      go_ret
      exact ⟨by first | rfl | (simp; done) | (simp [*]; done), by repeat (first | exact Drawn0.refl _ | apply Drawn0.step)⟩
    · rw [if_neg c5] at H
      have c5b0 : decide (65 ≤ a0) = false := decide_eq_false c5
      clear c5
      obtain rfl := Option.some.inj H
      go_enter Tryd.func35, Tryd.ntmps35
      go_wp2
      go_ret
      exact ⟨by first | rfl | (simp; done) | (simp [*]; done), by repeat (first | exact Drawn0.refl _ | apply Drawn0.step)⟩

/-! ### version_hasRune: function 36 -/
/-- 'hasRune': does one of the text's runes equal r? -/
def version_hasRune.f (a0 : ByteArray) (a1 : Int) : Option (Bool) := some (!runesAll (fun c => decide ((c : Int) ≠ a1)) a0 a0.size 0)
set_option maxHeartbeats 1000000 in
set_option maxRecDepth 100000 in
theorem version_hasRune.calls (a0 : ByteArray) (a1 : Int) (r : Bool) (w : World) (h : version_hasRune.f a0 a1 = some r) :
    Calls Tryd.prog 36 #[.string a0, .int .i32 a1] w fun e w' => e = .returned (.bool r) ∧ Below w.heap.size w w' := by
  have Hr : Hid (r = !runesAll (fun c => decide ((c : Int) ≠ a1)) a0 a0.size 0) := by
    unfold version_hasRune.f at h; exact (Option.some.inj h).symm
  clear h
  go_enter Tryd.func36, Tryd.ntmps36
  go_wp2
  go_loopw [] (fun wr => ∃ pos fuel : Nat, Hid (wr = w.iter a0 pos) ∧ a0.size ≤ pos + fuel ∧ Hid (runesAll (fun c => decide ((c : Int) ≠ a1)) a0 a0.size 0 = runesAll (fun c => decide ((c : Int) ≠ a1)) a0 fuel pos)) (fun wr => a0.size - wr.iterPos w.heap.size)
  case atStart => exact ⟨0, a0.size, rfl, by omega, rfl⟩
  case round =>
    obtain ⟨pos, fuel, hw, hf, hr⟩ := hrel
    obtain rfl := hw.out
    clear hw
    by_cases hp : pos < a0.size
    · have hnx := fun ty => run_next_any (P := Tryd.prog) w a0 pos ty hp
      obtain ⟨f, rfl⟩ : ∃ f, fuel = f + 1 := ⟨fuel - 1, by omega⟩
      have hwd := width_pos a0 pos hp
      have Hnx := Lib.hid (hr.out.trans (runesAll_step _ a0 f pos hp))
      clear hr
      by_cases hc : ((Utf8.decode a0 pos).1 : Int) = a1
      · have hb : (((Utf8.decode a0 pos).1 : Int) == a1) = true := by simpa using hc
        have Hc := Lib.hid hc
        clear hc
        go_wp2
        go_ret
        refine ⟨?_, ((Below.refl _ w).alloc (Nat.le_refl _) _)⟩
        rw [Hr.out, Hnx.out]
        simp [Hc.out]
      · have hb : (((Utf8.decode a0 pos).1 : Int) == a1) = false := by simpa using hc
        have Hc := Lib.hid hc
        clear hc
        go_wp2
        go_roundw
        case rel =>
          refine ⟨pos + (Utf8.decode a0 pos).2, f, rfl, by omega, ?_⟩
          rw [Hid, Hnx.out]
          simp [Hc.out]
        case measure =>
          simp
          omega
    · have hnx := fun ty => run_next_end (P := Tryd.prog) w a0 pos ty hp
      have Hend := Lib.hid (hr.out.trans (runesAll_end _ a0 fuel pos hp))
      clear hr
      go_wp2
      go_ret
      refine ⟨?_, ((Below.refl _ w).alloc (Nat.le_refl _) _)⟩
      rw [Hr.out, Hend.out]
      rfl


/-! ### version_made: function 22 -/
def dgt (c : Int) : Bool := decide (48 ≤ c ∧ c ≤ 57)
def ltr (c : Int) : Bool := decide (97 ≤ c ∧ c ≤ 122) || decide (65 ≤ c ∧ c ≤ 90)
theorem dgt_f (c : Int) : version_isDigit.f c = some (dgt c) := by
  unfold version_isDigit.f dgt
  split
  · congr 1
    simp only [decide_eq_decide]
    omega
  · congr 1
    symm
    simp only [decide_eq_false_iff_not]
    omega
theorem ltr_f (c : Int) : version_isLetter.f c = some (ltr c) := by
  unfold version_isLetter.f ltr
  repeat' split
  all_goals
    congr 1
    rw [Bool.eq_iff_iff]
    simp
    omega
def hasR (s : ByteArray) (r : Int) : Bool := !runesAll (fun c => decide ((c : Int) ≠ r)) s s.size 0
/-- One rune of 'made'. -/
def madeP (a1 : Bool) (a2 : ByteArray) (c : Nat) : Bool := dgt c || (a1 && ltr c) || (decide ((c : Int) < 128) && hasR a2 c)
/-- 'made': all runes. -/
def version_made.f (a0 : ByteArray) (a1 : Bool) (a2 : ByteArray) : Option (Bool) := some (runesAll (madeP a1 a2) a0 a0.size 0)
theorem iterPos_of {w : World} {k : Nat} {s : ByteArray} {pos : Nat} (h : w.heap[k]? = some (.stringIter s pos)) : w.iterPos k = pos := by
  simp [World.iterPos, h]
set_option maxHeartbeats 4000000 in
set_option maxRecDepth 100000 in
theorem version_made.calls (a0 : ByteArray) (a1 : Bool) (a2 : ByteArray) (r : Bool) (w : World) (h : version_made.f a0 a1 a2 = some r) :
    Calls Tryd.prog 22 #[.string a0, .bool a1, .string a2] w fun e w' => e = .returned (.bool r) ∧ Below w.heap.size w w' := by
  have Hr : Hid (r = runesAll (madeP a1 a2) a0 a0.size 0) := (Option.some.inj h).symm
  clear h
  go_enter Tryd.func22, Tryd.ntmps22
  go_wp2
  go_loopw [] (fun wr => ∃ pos fuel : Nat, Hid (wr.heap[w.heap.size]? = some (.stringIter a0 pos)) ∧ Hid (Below w.heap.size w wr) ∧ a0.size ≤ pos + fuel ∧ Hid (runesAll (madeP a1 a2) a0 a0.size 0 = runesAll (madeP a1 a2) a0 fuel pos)) (fun wr => a0.size - wr.iterPos w.heap.size)
  case atStart => exact ⟨0, a0.size, World.iter_heap w a0 0, (Below.refl _ w).alloc (Nat.le_refl _) _, by omega, rfl⟩
  case round =>
    obtain ⟨pos, fuel, hit, hb, hf, hr⟩ := hrel
    have hsz : w.heap.size < wr.heap.size := (Array.getElem?_eq_some_iff.1 hit.out).1
    by_cases hp : pos < a0.size
    · have hnx : ∀ ty, (Instr.next (.pointer (some ⟨w.heap.size, 0, none⟩)) true ty).run Tryd.prog wr = _ := fun ty => Lib.run_next_any_at wr w.heap.size a0 pos ty hit.out hp
      obtain ⟨f, rfl⟩ : ∃ f, fuel = f + 1 := ⟨fuel - 1, by omega⟩
      have hwd := width_pos a0 pos hp
      have Hnx := Lib.hid (hr.out.trans (runesAll_step _ a0 f pos hp))
      clear hr
      have Hit2 := Lib.hid (Lib.iterAt_heap wr w.heap.size a0 pos (pos + (Utf8.decode a0 pos).2) hit.out)
      have Hb2 := Lib.hid (Lib.below_iterAt hb.out (k := w.heap.size) (Nat.le_refl _) a0 (pos + (Utf8.decode a0 pos).2))
      have hsz2 : w.heap.size < (wr.iterAt w.heap.size a0 (pos + (Utf8.decode a0 pos).2)).heap.size := by rw [Lib.iterAt_size]; omega
      have Hit0 := Lib.hid hit.out
      clear hit hb
      obtain ⟨d, Hd⟩ : ∃ d, Hid (version_isDigit.f ((Utf8.decode a0 pos).1 : Int) = some d ∧ d = dgt ((Utf8.decode a0 pos).1 : Int)) := ⟨_, dgt_f _, rfl⟩
      obtain ⟨l, Hl⟩ : ∃ l, Hid (version_isLetter.f ((Utf8.decode a0 pos).1 : Int) = some l ∧ l = ltr ((Utf8.decode a0 pos).1 : Int)) := ⟨_, ltr_f _, rfl⟩
      obtain ⟨m, Hm⟩ : ∃ m, Hid (version_hasRune.f a2 ((Utf8.decode a0 pos).1 : Int) = some m ∧ m = hasR a2 ((Utf8.decode a0 pos).1 : Int)) := ⟨_, rfl, rfl⟩
      obtain ⟨t, Ht⟩ : ∃ t, Hid (t = decide (((Utf8.decode a0 pos).1 : Int) < 128)) := ⟨_, rfl⟩
      have Hall : Hid (madeP a1 a2 (Utf8.decode a0 pos).1 = (d || (a1 && l) || (t && m))) := by
        unfold madeP; rw [Hd.out.2, Hl.out.2, Hm.out.2, Ht.out]; rfl
      have ht : decide (((Utf8.decode a0 pos).1 : Int) < 128) = t := Ht.out.symm
      have Hj := Lib.hid (show ∀ q, (d || (a1 && l) || (t && m)) = q → runesAll (madeP a1 a2) a0 a0.size 0 = (q && runesAll (madeP a1 a2) a0 f (pos + (Utf8.decode a0 pos).2)) from fun q hq => Hnx.out.trans (by rw [Hall.out, hq]))
      clear Hnx Hall
      have hd : ∀ b, b = d → version_isDigit.f ((Utf8.decode a0 pos).1 : Int) = some b := fun b e => by rw [e]; exact Hd.out.1
      have hl : ∀ b, b = l → version_isLetter.f ((Utf8.decode a0 pos).1 : Int) = some b := fun b e => by rw [e]; exact Hl.out.1
      have hm : ∀ b, b = m → version_hasRune.f a2 ((Utf8.decode a0 pos).1 : Int) = some b := fun b e => by rw [e]; exact Hm.out.1
      have Hdd := Lib.hid hd; have Hll := Lib.hid hl; have Hmm := Lib.hid hm
      clear hd hl hm Hd Hl Hm Ht
      cases d <;> cases a1 <;> cases l <;> cases t <;> cases m
      all_goals
        have Hq := Lib.hid (Hj.out _ rfl)
        clear Hj
        go_wp2_with (first | (go_at_call 21; refine (version_isDigit.calls _ _ _ (Hdd.out _ rfl)).mono ?_; rintro e w' ⟨rfl, ⟨nd, rfl⟩⟩) | (go_at_call 35; refine (version_isLetter.calls _ _ _ (Hll.out _ rfl)).mono ?_; rintro e w' ⟨rfl, ⟨nd, rfl⟩⟩) | (go_at_call 36; refine (version_hasRune.calls _ _ _ _ (Hmm.out _ rfl)).mono ?_; rintro e w' ⟨rfl, hbw⟩; have Hbw := Lib.hid hbw; clear hbw))
      all_goals first
        | (go_ret
           obtain rfl := Hr.out
           refine ⟨by rw [Hq.out]; rfl, ?_⟩
           first
             | (refine below_then ?_ ?_ Hbw.out
                · repeat (first | exact Hb2.out | apply pw_below_drewN)
                · exact Nat.le_of_lt hsz2)
             | (repeat (first | exact Hb2.out | apply pw_below_drewN)))
        | (have Hit3 := Lib.hid ((Hbw.out.block w.heap.size hsz2).trans Hit2.out)
           go_roundw
           case rel =>
             refine ⟨pos + (Utf8.decode a0 pos).2, f, Hit3.out, ?_, by omega, Hq.out⟩
             refine below_then ?_ ?_ Hbw.out
             · repeat (first | exact Hb2.out | apply pw_below_drewN)
             · exact Nat.le_of_lt hsz2
           case measure =>
             simp only [World.iterPos, Hit0.out, Hit3.out]
             omega)
        | (have Hit3 := Hit2
           go_roundw
           case rel =>
             refine ⟨pos + (Utf8.decode a0 pos).2, f, Hit2.out, ?_, by omega, Hq.out⟩
             repeat (first | exact Hb2.out | apply pw_below_drewN)
           case measure =>
             rw [iterPos_of Hit0.out]
             refine Nat.lt_of_le_of_lt (Nat.le_of_eq (congrArg (a0.size - ·) (iterPos_of Hit2.out))) ?_
             omega)
    · have hnx : ∀ ty, (Instr.next (.pointer (some ⟨w.heap.size, 0, none⟩)) true ty).run Tryd.prog wr = _ := fun ty => Lib.run_next_end_at wr w.heap.size a0 pos ty hit.out hp
      have Hend := Lib.hid (hr.out.trans (runesAll_end _ a0 fuel pos hp))
      clear hr
      go_wp2
      go_ret
      obtain rfl := Hr.out
      exact ⟨by rw [Hend.out]; rfl, hb.out⟩


/-! ### version_parted: function 10 -/
def emptyB : ByteArray := ⟨#[]⟩
def othersOf (colon : Bool) : ByteArray := if colon then ⟨#[46, 43, 45, 126, 58]⟩ else ⟨#[46, 43, 45, 126]⟩
def ok1 (colon minus : Bool) (e up rev : ByteArray) : Bool := (!colon || !e.toList.isEmpty) && (!minus || !rev.toList.isEmpty) && !up.toList.isEmpty && dgt (bt up 0)
theorem two_new (w : World) (o1 o2 : Obj) (n : Nat) : (((w.alloc o1).alloc o2).drewN n).heap[w.heap.size]? = some o1 ∧ (((w.alloc o1).alloc o2).drewN n).heap[w.heap.size + 1]? = some o2 ∧ Below w.heap.size w (((w.alloc o1).alloc o2).drewN n) := by
  refine ⟨blk_drewN (blk_alloc (blk_new w o1) o2) n, blk_drewN ?_ n, pw_below_drewN (below_alloc (below_alloc (Below.refl _ w) o1) o2) n⟩
  have := blk_new (w.alloc o1) o2
  rwa [World.size_alloc] at this
set_option maxHeartbeats 4000000 in
set_option maxRecDepth 1000000 in
/-- The beginning: the parts lie in p; then the test. -/
theorem version_parted.walk (k : Nat) (s e rest up rev c6 c7 : ByteArray) (colon minus : Bool) (m : Int) (a1 a2 a3 : Bool) (w : World)
    (hcut : strings_Cut.f s ⟨#[58]⟩ = some (c6, c7, colon))
    (hyes : colon = true → c6 = e ∧ c7 = rest)
    (hrest : colon = false → rest = s ∧ e = emptyB)
    (hlast : strings_LastIndexByte.f k rest 45 = some m)
    (hm : minus = false → m < 0 ∧ up = rest ∧ rev = emptyB)
    (hm2 : minus = true → 0 ≤ m ∧ m + 1 ≤ rest.size ∧ up = rest.extract 0 m.toNat ∧ rev = rest.extract (m + 1).toNat rest.size)
    (hsz : (rest.size : Int) ≤ 140737488351232)
    (h1 : version_made.f e false emptyB = some a1) (h2 : version_made.f up true (othersOf colon) = some a2) (h3 : version_made.f rev true ⟨#[43, 46, 126]⟩ = some a3) :
    Calls Tryd.prog 10 #[.string s] w fun e' w' => e' = .returned (.tuple #[.agg #[.string e, .string up, .string rev], .bool (ok1 colon minus e up rev && (a1 && (a2 && a3)))]) ∧ Below w.heap.size w w' := by
  have Hcut := Lib.hid hcut; clear hcut
  have Hlast := Lib.hid hlast; clear hlast
  have Hrest := Lib.hid hrest; clear hrest
  have Hyes := Lib.hid hyes; clear hyes
  have Hm := Lib.hid hm; clear hm
  have Hm2 := Lib.hid hm2; clear hm2
  have H1 := Lib.hid h1; clear h1
  have H2 := Lib.hid h2; clear h2
  have H3 := Lib.hid h3; clear h3
  have hu27 := Tryd.underlying31
  go_enter Tryd.func10, Tryd.ntmps10
  go_upto_if 19 with (go_at_call 19; refine (strings_Cut.calls _ _ _ _ _ _ Hcut.out).mono ?_; rintro e' w' ⟨rfl, ⟨nd, rfl⟩⟩)
  go_cut [5] (fun s5 wx => s5 = .string rest ∧ Hid (wx.heap[w.heap.size]? = some (.cells #[.string emptyB, .string emptyB, .string emptyB] 31 (0, 0))) ∧ Hid (wx.heap[w.heap.size + 1]? = some (.cells #[.string e, .string emptyB, .string emptyB] 31 (0, 0))) ∧ Hid (Below w.heap.size w wx))
  case first =>
    cases colon
    · obtain ⟨er, ee⟩ := Hrest.out rfl
      have He := Lib.hid ee; have Her := Lib.hid er
      clear er ee
      go_wp2_with fail
      go_meet
      obtain ⟨q1, q2, q3⟩ := two_new w (.cells #[.string emptyB, .string emptyB, .string emptyB] 31 (0, 0)) (.cells #[.string emptyB, .string emptyB, .string emptyB] 31 (0, 0)) nd
      exact ⟨by rw [Her.out], q1, by rw [He.out]; exact q2, q3⟩
    · obtain ⟨er, ee⟩ := Hyes.out rfl
      have He := Lib.hid er; have Her := Lib.hid ee
      clear er ee
      go_wp2_with fail
      go_meet
      obtain ⟨q1, q2, q3⟩ := two_new w (.cells #[.string emptyB, .string emptyB, .string emptyB] 31 (0, 0)) (.cells #[.string emptyB, .string emptyB, .string emptyB] 31 (0, 0)) nd
      exact ⟨by rw [Her.out], blk_far q1 (by simp) _, blk_put q2 0 _ (by rw [He.out]; rfl), below_set q3 (by simp)⟩
  case rest =>
    obtain ⟨rfl, hR, hP, hB⟩ := hcut
    have hc1 := blk_cell hP.out 1
    have hz1 := blk_frozen hP.out 1
    simp only [List.getElem?_toArray, List.getElem?_cons_succ, List.getElem?_cons_zero] at hc1
    go_upto_region 7 with fail
    clear hc1 hz1
    go_cut [9] (fun s9 wx => s9 = .int .i64 m ∧ Hid (wx.heap[w.heap.size]? = some (.cells #[.string emptyB, .string emptyB, .string emptyB] 31 (0, 0))) ∧ Hid (wx.heap[w.heap.size + 1]? = some (.cells #[.string e, .string rest, .string emptyB] 31 (0, 0))) ∧ Hid (Below w.heap.size w wx))
    case first =>
      go_wp2_with (go_at_call 20; refine (strings_LastIndexByte.calls _ _ _ _ _ Hlast.out).mono ?_; rintro e' w' ⟨rfl, ⟨nd2, rfl⟩⟩)
      go_meet
      exact ⟨rfl, blk_drewN (blk_far hR.out (by simp) _) _, blk_drewN (blk_put hP.out 1 _ rfl) _, pw_below_drewN (below_set hB.out (by simp)) _⟩
    case rest =>
      obtain ⟨rfl, hR, hP, hB⟩ := hcut
      have Hge : Hid (minus = decide (0 ≤ m)) := by
        cases minus
        · have := (Hm.out rfl).1
          exact (decide_eq_false (by omega)).symm
        · have := (Hm2.out rfl).1
          exact (decide_eq_true (by omega)).symm
      go_upto_if 28 with fail
      go_cut [] (fun wx => Hid (wx.heap[w.heap.size]? = some (.cells #[.string emptyB, .string emptyB, .string emptyB] 31 (0, 0))) ∧ Hid (wx.heap[w.heap.size + 1]? = some (.cells #[.string e, .string up, .string rev] 31 (0, 0))) ∧ Hid (Below w.heap.size w wx))
      case first =>
        cases minus
        · obtain ⟨m1, m2, m3⟩ := Hm.out rfl
          have M2 := Lib.hid m2; have M3 := Lib.hid m3
          clear m2 m3
          have hd : decide (0 ≤ m) = false := decide_eq_false (by omega)
          go_wp2_with fail
          go_meet
          exact ⟨hR.out, by rw [M2.out, M3.out]; exact hP.out, hB.out⟩
        · obtain ⟨m0, m1, m2, m3⟩ := Hm2.out rfl
          have M2 := Lib.hid m2; have M3 := Lib.hid m3
          clear m2 m3
          have hd : decide (0 ≤ m) = true := decide_eq_true (by omega)
          have hz1 := blk_frozen hP.out 1
          have hz2 := blk_frozen hP.out 2
          have hc1 := blk_cell hP.out 1
          have hc2 := blk_cell hP.out 2
          simp only [List.getElem?_toArray, List.getElem?_cons_succ, List.getElem?_cons_zero] at hc1 hc2
          go_wp2_with fail
          go_region
          all_goals (go_wp2_with fail)
          all_goals go_meet
          all_goals exact ⟨blk_drew (blk_far (blk_far hR.out (by simp) _) (by simp) _), by rw [M2.out, M3.out]; exact blk_drew (blk_put (blk_put hP.out 1 _ rfl) 2 _ rfl), below_drew (below_set (below_set hB.out (by simp)) (by simp))⟩
      case rest =>
        obtain ⟨hR, hP, hB⟩ := hcut
        go_upto_if 38 with fail
        go_cut [10] (fun s10 wx => s10 = .string (othersOf colon) ∧ Hid (wx.heap[w.heap.size]? = some (.cells #[.string emptyB, .string emptyB, .string emptyB] 31 (0, 0))) ∧ Hid (wx.heap[w.heap.size + 1]? = some (.cells #[.string e, .string up, .string rev] 31 (0, 0))) ∧ Hid (Below w.heap.size w wx))
        case first =>
          cases colon
          all_goals
            go_wp2_with fail
            go_meet
            exact ⟨rfl, hR.out, hP.out, hB.out⟩
        case rest =>
          obtain ⟨rfl, hR, hP, hB⟩ := hcut
          go_upto_region 13 with fail
          go_cut [11] (fun s11 wx => s11 = .bool (ok1 colon minus e up rev) ∧ Hid (wx.heap[w.heap.size]? = some (.cells #[.string emptyB, .string emptyB, .string emptyB] 31 (0, 0))) ∧ Hid (wx.heap[w.heap.size + 1]? = some (.cells #[.string e, .string up, .string rev] 31 (0, 0))) ∧ Hid (Below w.heap.size w wx))
          case first =>
            have hc1 := blk_cell hP.out 1
            have hc2 := blk_cell hP.out 2
            simp only [List.getElem?_toArray, List.getElem?_cons_succ, List.getElem?_cons_zero] at hc1 hc2
            have hlt : decide (m < 0) = !minus := by
              rw [Hge.out, ← decide_not]
              simp only [decide_eq_decide]
              omega
            obtain ⟨be, hbe⟩ : ∃ b, c6.toList.isEmpty = b := ⟨_, rfl⟩
            obtain ⟨br, hbr⟩ : ∃ b, rev.toList.isEmpty = b := ⟨_, rfl⟩
            obtain ⟨bu, hbu⟩ : ∃ b, up.toList.isEmpty = b := ⟨_, rfl⟩
            have Hok : Hid (ok1 colon minus e up rev = ((!colon || !be) && (!minus || !br) && !bu && dgt (bt up 0))) := by
              unfold ok1
              rw [hbr, hbu]
              cases colon
              · rfl
              · rw [← (Hyes.out rfl).1, hbe]; rfl
            obtain ⟨dg, Hdg⟩ : ∃ d, Hid (dgt (bt up 0) = d) := ⟨_, rfl⟩
            have Hok2 := Lib.hid (Hok.out.trans (congrArg _ Hdg.out))
            have Hdgf := Lib.hid ((dgt_f (bt up 0)).trans (congrArg some Hdg.out))
            clear Hok
            cases bu with
            | true =>
              cases colon <;> cases minus <;> cases be <;> cases br
              all_goals (go_wp2_with fail)
              all_goals go_meet
              all_goals exact ⟨by rw [Hok2.out]; simp, hR.out, hP.out, hB.out⟩
            | false =>
              have hu0 : 0 < up.size := by
                cases h : up.size with
                | zero =>
                  have e0 : up.toList = [] := by
                    rw [Lib.toList_data]
                    exact List.eq_nil_of_length_eq_zero (by simpa using h)
                  rw [e0] at hbu
                  cases hbu
                | succ n => omega
              have hu1 : (0 : Int) < (up.size : Int) := by omega
              have hw32 : wrap32 (((up[0]'hu0).toNat : Nat) : Int) = bt up 0 := by
                have h255 := (up[0]'hu0).toNat_lt
                rw [show bt up 0 = (((up[0]'hu0).toNat : Nat) : Int) from (bt_at up 0 hu0).symm]
                unfold wrap32
                omega
              cases colon <;> cases minus <;> cases be <;> cases br
              all_goals (go_wp2_with (go_at_call 21; refine (version_isDigit.calls _ _ _ Hdgf.out).mono ?_; rintro e' w' ⟨rfl, ⟨nd3, rfl⟩⟩))
              all_goals go_meet
              all_goals exact ⟨by rw [Hok2.out]; simp, hR.out, hP.out, by first | exact hB.out | exact pw_below_drewN hB.out _⟩
          case rest =>
            obtain ⟨rfl, hR, hP, hB⟩ := hcut
            have hc0 := blk_cell hP.out 0
            have hc1 := blk_cell hP.out 1
            have hc2 := blk_cell hP.out 2
            have hr0 := blk_cell hR.out 0
            have hr1 := blk_cell hR.out 1
            have hr2 := blk_cell hR.out 2
            have hz0 := blk_frozen hR.out 0
            have hz1 := blk_frozen hR.out 1
            have hz2 := blk_frozen hR.out 2
            simp only [List.getElem?_toArray, List.getElem?_cons_succ, List.getElem?_cons_zero] at hc0 hc1 hc2 hr0 hr1 hr2
            cases ho : ok1 colon minus e up rev
            · have Ho := Lib.hid ho
              clear ho
              go_wp2_with fail
              refine bodyPost_ret (results_ct rfl _ _ w.heap.size 31 #[.string e, .string up, .string rev] (0, 0) _ rfl (blk_put (blk_put (blk_put hR.out 0 _ rfl) 1 _ rfl) 2 _ rfl) Tryd.underlying31 rfl rfl) rfl ⟨by rw [Ho.out]; rfl, below_set (below_set (below_set hB.out (Nat.le_refl _)) (Nat.le_refl _)) (Nat.le_refl _)⟩
            · have Ho := Lib.hid ho
              clear ho
              cases a1 with
              | false =>
                go_wp2_with fail
                refine (version_made.calls _ _ _ _ _ H1.out).mono ?_
                rintro e' w1 ⟨rfl, hb⟩
                have hR1 := Lib.hid (blk_below hR.out hb)
                have hP1 := Lib.hid (blk_below hP.out hb)
                have hB1 := Lib.hid (below_then hB.out (below_size hB.out) hb)
                clear hb hc0 hc1 hc2 hr0 hr1 hr2 hz0 hz1 hz2
                have hc0 := blk_cell hP1.out 0
                have hc1 := blk_cell hP1.out 1
                have hc2 := blk_cell hP1.out 2
                have hr0 := blk_cell hR1.out 0
                have hr1 := blk_cell hR1.out 1
                have hr2 := blk_cell hR1.out 2
                have hz0 := blk_frozen hR1.out 0
                have hz1 := blk_frozen hR1.out 1
                have hz2 := blk_frozen hR1.out 2
                simp only [List.getElem?_toArray, List.getElem?_cons_succ, List.getElem?_cons_zero] at hc0 hc1 hc2 hr0 hr1 hr2
                go_wp2_with fail
                refine bodyPost_ret (results_ct rfl _ _ w.heap.size 31 #[.string e, .string up, .string rev] (0, 0) _ rfl (blk_put (blk_put (blk_put hR1.out 0 _ rfl) 1 _ rfl) 2 _ rfl) Tryd.underlying31 rfl rfl) rfl ⟨by rw [Ho.out]; rfl, below_set (below_set (below_set hB1.out (Nat.le_refl _)) (Nat.le_refl _)) (Nat.le_refl _)⟩
              | true =>
                go_wp2_with fail
                refine (version_made.calls _ _ _ _ _ H1.out).mono ?_
                rintro e' w1 ⟨rfl, hb⟩
                have hR1 := Lib.hid (blk_below hR.out hb)
                have hP1 := Lib.hid (blk_below hP.out hb)
                have hB1 := Lib.hid (below_then hB.out (below_size hB.out) hb)
                clear hb hc0 hc1 hc2 hr0 hr1 hr2 hz0 hz1 hz2
                have hc0 := blk_cell hP1.out 0
                have hc1 := blk_cell hP1.out 1
                have hc2 := blk_cell hP1.out 2
                have hr0 := blk_cell hR1.out 0
                have hr1 := blk_cell hR1.out 1
                have hr2 := blk_cell hR1.out 2
                have hz0 := blk_frozen hR1.out 0
                have hz1 := blk_frozen hR1.out 1
                have hz2 := blk_frozen hR1.out 2
                simp only [List.getElem?_toArray, List.getElem?_cons_succ, List.getElem?_cons_zero] at hc0 hc1 hc2 hr0 hr1 hr2
                go_wp2_with fail
                cases a2 with
                | false =>
                  refine (version_made.calls _ _ _ _ _ H2.out).mono ?_
                  rintro e' w2 ⟨rfl, hb⟩
                  have hR2 := Lib.hid (blk_below hR1.out hb)
                  have hP2 := Lib.hid (blk_below hP1.out hb)
                  have hB2 := Lib.hid (below_then hB1.out (below_size hB1.out) hb)
                  clear hb hc0 hc1 hc2 hr0 hr1 hr2 hz0 hz1 hz2
                  have hc0 := blk_cell hP2.out 0
                  have hc1 := blk_cell hP2.out 1
                  have hc2 := blk_cell hP2.out 2
                  have hr0 := blk_cell hR2.out 0
                  have hr1 := blk_cell hR2.out 1
                  have hr2 := blk_cell hR2.out 2
                  have hz0 := blk_frozen hR2.out 0
                  have hz1 := blk_frozen hR2.out 1
                  have hz2 := blk_frozen hR2.out 2
                  simp only [List.getElem?_toArray, List.getElem?_cons_succ, List.getElem?_cons_zero] at hc0 hc1 hc2 hr0 hr1 hr2
                  go_wp2_with fail
                  refine bodyPost_ret (results_ct rfl _ _ w.heap.size 31 #[.string e, .string up, .string rev] (0, 0) _ rfl (blk_put (blk_put (blk_put hR2.out 0 _ rfl) 1 _ rfl) 2 _ rfl) Tryd.underlying31 rfl rfl) rfl ⟨by rw [Ho.out]; rfl, below_set (below_set (below_set hB2.out (Nat.le_refl _)) (Nat.le_refl _)) (Nat.le_refl _)⟩
                | true =>
                  refine (version_made.calls _ _ _ _ _ H2.out).mono ?_
                  rintro e' w2 ⟨rfl, hb⟩
                  have hR2 := Lib.hid (blk_below hR1.out hb)
                  have hP2 := Lib.hid (blk_below hP1.out hb)
                  have hB2 := Lib.hid (below_then hB1.out (below_size hB1.out) hb)
                  clear hb hc0 hc1 hc2 hr0 hr1 hr2 hz0 hz1 hz2
                  have hc0 := blk_cell hP2.out 0
                  have hc1 := blk_cell hP2.out 1
                  have hc2 := blk_cell hP2.out 2
                  have hr0 := blk_cell hR2.out 0
                  have hr1 := blk_cell hR2.out 1
                  have hr2 := blk_cell hR2.out 2
                  have hz0 := blk_frozen hR2.out 0
                  have hz1 := blk_frozen hR2.out 1
                  have hz2 := blk_frozen hR2.out 2
                  simp only [List.getElem?_toArray, List.getElem?_cons_succ, List.getElem?_cons_zero] at hc0 hc1 hc2 hr0 hr1 hr2
                  go_wp2_with fail
                  refine (version_made.calls _ _ _ _ _ H3.out).mono ?_
                  rintro e' w3 ⟨rfl, hb⟩
                  have hR3 := Lib.hid (blk_below hR2.out hb)
                  have hP3 := Lib.hid (blk_below hP2.out hb)
                  have hB3 := Lib.hid (below_then hB2.out (below_size hB2.out) hb)
                  clear hb hc0 hc1 hc2 hr0 hr1 hr2 hz0 hz1 hz2
                  have hc0 := blk_cell hP3.out 0
                  have hc1 := blk_cell hP3.out 1
                  have hc2 := blk_cell hP3.out 2
                  have hr0 := blk_cell hR3.out 0
                  have hr1 := blk_cell hR3.out 1
                  have hr2 := blk_cell hR3.out 2
                  have hz0 := blk_frozen hR3.out 0
                  have hz1 := blk_frozen hR3.out 1
                  have hz2 := blk_frozen hR3.out 2
                  simp only [List.getElem?_toArray, List.getElem?_cons_succ, List.getElem?_cons_zero] at hc0 hc1 hc2 hr0 hr1 hr2
                  go_wp2_with fail
                  refine bodyPost_ret (results_ct rfl _ _ w.heap.size 31 #[.string e, .string up, .string rev] (0, 0) _ rfl (blk_put (blk_put (blk_put hR3.out 0 _ rfl) 1 _ rfl) 2 _ rfl) Tryd.underlying31 rfl rfl) rfl ⟨by rw [Ho.out]; rfl, below_set (below_set (below_set hB3.out (Nat.le_refl _)) (Nat.le_refl _)) (Nat.le_refl _)⟩
/-- What 'parted' tells of its pieces. -/
def fin (colon minus : Bool) (e up rev : ByteArray) : ByteArray × ByteArray × ByteArray × Bool :=
  (e, up, rev, ok1 colon minus e up rev && (runesAll (madeP false emptyB) e e.size 0 && (runesAll (madeP true (othersOf colon)) up up.size 0 && runesAll (madeP true ⟨#[43, 46, 126]⟩) rev rev.size 0)))
/-- The second cut: at the last minus. -/
def minusOf (colon : Bool) (e rest : ByteArray) (m : Int) : Option (ByteArray × ByteArray × ByteArray × Bool) :=
  if 0 ≤ m then (if m + 1 ≤ rest.size then some (fin colon true e (rest.extract 0 m.toNat) (rest.extract (m + 1).toNat rest.size)) else none) else some (fin colon false e rest emptyB)
def restOf (s : ByteArray) (c : ByteArray × ByteArray × Bool) : ByteArray := if c.2.2 then c.2.1 else s
def epochOf (c : ByteArray × ByteArray × Bool) : ByteArray := if c.2.2 then c.1 else emptyB
/-- 'parted'. -/
def version_parted.f (k : Nat) (a0 : ByteArray) : Option (ByteArray × ByteArray × ByteArray × Bool) :=
  (strings_Cut.f a0 ⟨#[58]⟩).bind fun c => (strings_LastIndexByte.f k (restOf a0 c) 45).bind fun m => if (restOf a0 c).size ≤ 140737488351232 then minusOf c.2.2 (epochOf c) (restOf a0 c) m else none
theorem version_parted.mono : ∀ a0 k, LeO (version_parted.f k a0) (version_parted.f (k + 1) a0) := by
  intro a0 k r h
  unfold version_parted.f at h ⊢
  obtain ⟨c, hc, h⟩ := Option.bind_eq_some_iff.mp h
  obtain ⟨m, hm, h⟩ := Option.bind_eq_some_iff.mp h
  rw [hc, Option.bind_some, strings_LastIndexByte.mono _ _ k m hm]
  exact h
theorem version_parted.calls (k : Nat) (a0 : ByteArray) (r1 : ByteArray) (r2 : ByteArray) (r3 : ByteArray) (r4 : Bool) (w : World) (h : version_parted.f k a0 = some (r1, r2, r3, r4)) :
    Calls Tryd.prog 10 #[.string a0] w fun e w' => e = .returned (.tuple #[.agg #[.string r1, .string r2, .string r3], .bool r4]) ∧ Below w.heap.size w w' := by
  unfold version_parted.f at h
  obtain ⟨⟨c6, c7, colon⟩, hc, h⟩ := Option.bind_eq_some_iff.mp h
  obtain ⟨m, hm, h⟩ := Option.bind_eq_some_iff.mp h
  split at h
  case isFalse => cases h
  case isTrue hz =>
    unfold minusOf at h
    split at h
    · split at h
      case isFalse => cases h
      case isTrue h0 h1 =>
        have h := Option.some.inj h
        simp only [fin, Prod.mk.injEq] at h
        obtain ⟨rfl, rfl, rfl, rfl⟩ := h
        exact version_parted.walk k a0 _ (restOf a0 (c6, c7, colon)) _ _ c6 c7 colon true m _ _ _ w hc (by rintro rfl; exact ⟨rfl, rfl⟩) (by rintro rfl; exact ⟨rfl, rfl⟩) hm (fun h => by cases h) (fun _ => ⟨h0, h1, rfl, rfl⟩) (by omega) rfl rfl rfl
    · rename_i h0
      have h := Option.some.inj h
      simp only [fin, Prod.mk.injEq] at h
      obtain ⟨rfl, rfl, rfl, rfl⟩ := h
      exact version_parted.walk k a0 _ (restOf a0 (c6, c7, colon)) _ _ c6 c7 colon false m _ _ _ w hc (by rintro rfl; exact ⟨rfl, rfl⟩) (by rintro rfl; exact ⟨rfl, rfl⟩) hm (fun _ => ⟨by omega, rfl, rfl⟩) (fun h => by cases h) (by omega) rfl rfl rfl


end Go.Proofs.YtcndnccobhgnlaaDoor.C
