-- printed by wip/myprint.py of this session over the kit's print.py; Lean checks it
import Derived.Test.YtmocooihkobdjaaDoorB0
import Derived.Test.YtmocooihkobdjaaDoorB6
namespace Go.Proofs.YtmocooihkobdjaaDoor.B
open Go.RowKit Go.Proofs.YtmocooihkobdjaaDoorW.PrintWords Go.Proofs.YtmocooihkobdjaaDoorW.PrintLast Go.Proofs.YtmocooihkobdjaaDoorW.PrintMore
attribute [local go_sem] max2_int min2_int max_two min_two max_three min_three max_four min_four   -- for this text's walks alone
set_option linter.unusedVariables false
set_option linter.unusedSimpArgs false

/-! ### depotref20_parted: function 73 -/
theorem two_newR (w : World) (o1 o2 : Obj) (n : Nat) : (((w.alloc o1).alloc o2).drewN n).heap[w.heap.size]? = some o1 ∧ (((w.alloc o1).alloc o2).drewN n).heap[w.heap.size + 1]? = some o2 ∧ Below w.heap.size w (((w.alloc o1).alloc o2).drewN n) := by
  refine ⟨blk_drewN (blk_alloc (blk_new w o1) o2) n, blk_drewN ?_ n, pw_below_drewN (below_alloc (below_alloc (Below.refl _ w) o1) o2) n⟩
  have := blk_new (w.alloc o1) o2
  rwa [World.size_alloc] at this
set_option maxHeartbeats 4000000 in
set_option maxRecDepth 1000000 in
theorem depotref20_parted.walk (k : Nat) (s : ByteArray) (i m : Int) (w : World) (hi : depotref20_first.f k s 58 = some i) (hm : depotref20_last.f k (restR s i) 45 = some m)
    (hi1 : i + 1 ≤ s.size) (hm1 : m + 1 ≤ (restR s i).size) (hsz : (s.size : Int) ≤ 140737488351232) (hsz2 : ((restR s i).size : Int) ≤ 140737488351232) :
    Calls Tryd.prog 73 #[.string s] w fun e w' => e = .returned (.agg #[.string (epochR s i), .string (upR (restR s i) m), .string (revR (restR s i) m), .bool (decide (0 ≤ i)), .bool (decide (0 ≤ m))]) ∧ Below w.heap.size w w' := by
  have Hi := Lib.hid hi; clear hi
  have Hm := Lib.hid hm; clear hm
  have hu31 := Tryd.underlying112
  go_enter Tryd.func73, Tryd.ntmps73
  go_upto_if 10 with (go_at_call 95; refine (depotref20_first.calls _ _ _ _ _ Hi.out).mono ?_; rintro e w' ⟨rfl, ⟨nd, rfl⟩⟩)
  obtain ⟨rest, Hrest⟩ : ∃ x, Hid (restR s i = x) := ⟨_, rfl⟩
  have Hm2 := Lib.hid (Hrest.out ▸ Hm.out)
  clear Hm
  have hm3 : m + 1 ≤ (rest.size : Int) := by rw [← Hrest.out]; exact hm1
  have hsz3 : (rest.size : Int) ≤ 140737488351232 := by rw [← Hrest.out]; exact hsz2
  clear hm1 hsz2
  have Hfin : Hid (∀ W : World, Ending.returned (Value.agg #[.string (epochR s i), .string (upR (restR s i) m), .string (revR (restR s i) m), .bool (decide (0 ≤ i)), .bool (decide (0 ≤ m))]) = Ending.returned (Value.agg #[.string (epochR s i), .string (upR rest m), .string (revR rest m), .bool (decide (0 ≤ i)), .bool (decide (0 ≤ m))]) ∧ W = W) := fun W => ⟨by rw [Hrest.out], rfl⟩
  go_cut [] (fun wx => Hid (wx.heap[w.heap.size]? = some (.cells #[.string emptyR, .string emptyR, .string emptyR, .bool false, .bool false] 112 (0, 0))) ∧ Hid (wx.heap[w.heap.size + 1]? = some (.cells #[.string (epochR s i), .string rest, .string emptyR, .bool (decide (0 ≤ i)), .bool false] 112 (0, 0))) ∧ Hid (Below w.heap.size w wx))
  case first =>
    obtain ⟨q1, q2, q3⟩ := two_newR w (.cells #[.string emptyR, .string emptyR, .string emptyR, .bool false, .bool false] 112 (0, 0)) (.cells #[.string emptyR, .string s, .string emptyR, .bool false, .bool false] 112 (0, 0)) nd
    have Q1 := Lib.hid q1; have Q2 := Lib.hid q2; have Q3 := Lib.hid q3
    clear q1 q2 q3
    by_cases h0 : 0 ≤ i
    · have hd : decide (0 ≤ i) = true := decide_eq_true h0
      have Hr := Lib.hid (Hrest.out.symm.trans (if_pos h0))
      have He : Hid (epochR s i = s.extract 0 i.toNat) := if_pos h0
      go_wp2_with fail
      go_meet
      refine ⟨blk_far (blk_far (blk_far Q1.out (by simp) _) (by simp) _) (by simp) _, ?_, below_set (below_set (below_set Q3.out (by simp)) (by simp)) (by simp)⟩
      rw [Hr.out, He.out, hd]
      exact blk_put (blk_put (blk_put Q2.out 0 _ rfl) 1 _ rfl) 3 _ rfl
    · have hd : decide (0 ≤ i) = false := decide_eq_false h0
      have Hr := Lib.hid (Hrest.out.symm.trans (if_neg h0))
      have He : Hid (epochR s i = emptyR) := if_neg h0
      go_wp2_with fail
      go_meet
      refine ⟨Q1.out, ?_, Q3.out⟩
      rw [Hr.out, He.out, hd]
      exact Q2.out
  case rest =>
    obtain ⟨hR, hP, hB⟩ := hcut
    obtain ⟨ep, Hep⟩ : ∃ x, Hid (epochR s i = x) := ⟨_, rfl⟩
    obtain ⟨bi, Hbi⟩ : ∃ x, Hid (decide (0 ≤ i) = x) := ⟨_, rfl⟩
    have hP1 := Lib.hid (Hbi.out ▸ Hep.out ▸ hP.out)
    clear hP
    have hc1 := blk_cell hP1.out 1
    simp only [List.getElem?_toArray, List.getElem?_cons_succ, List.getElem?_cons_zero] at hc1
    go_upto_if 25 with (go_at_call 96; refine (depotref20_last.calls _ _ _ _ _ Hm2.out).mono ?_; rintro e w' ⟨rfl, ⟨nd2, rfl⟩⟩)
    go_cut [] (fun wx => Hid (wx.heap[w.heap.size]? = some (.cells #[.string emptyR, .string emptyR, .string emptyR, .bool false, .bool false] 112 (0, 0))) ∧ Hid (wx.heap[w.heap.size + 1]? = some (.cells #[.string ep, .string (upR rest m), .string (revR rest m), .bool bi, .bool (decide (0 ≤ m))] 112 (0, 0))) ∧ Hid (Below w.heap.size w wx))
    case first =>
      by_cases h0 : 0 ≤ m
      · have hd : decide (0 ≤ m) = true := decide_eq_true h0
        have Hu : Hid (upR rest m = rest.extract 0 m.toNat) := if_pos h0
        have Hv : Hid (revR rest m = rest.extract (m + 1).toNat rest.size) := if_pos h0
        have hc2 := blk_cell hP1.out 2
        have hc4 := blk_cell hP1.out 4
        have hz1 := blk_frozen hP1.out 1
        have hz2 := blk_frozen hP1.out 2
        have hz4 := blk_frozen hP1.out 4
        simp only [List.getElem?_toArray, List.getElem?_cons_succ, List.getElem?_cons_zero] at hc2 hc4
        go_wp2_with fail
        go_meet
        refine ⟨blk_far (blk_far (blk_far (blk_drewN hR.out _) (by simp) _) (by simp) _) (by simp) _, ?_, below_set (below_set (below_set (pw_below_drewN hB.out _) (by simp)) (by simp)) (by simp)⟩
        rw [Hu.out, Hv.out, hd]
        exact blk_put (blk_put (blk_put (blk_drewN hP1.out _) 2 _ rfl) 1 _ rfl) 4 _ rfl
      · have hd : decide (0 ≤ m) = false := decide_eq_false h0
        have Hu : Hid (upR rest m = rest) := if_neg h0
        have Hv : Hid (revR rest m = emptyR) := if_neg h0
        go_wp2_with fail
        go_meet
        refine ⟨blk_drewN hR.out _, ?_, pw_below_drewN hB.out _⟩
        rw [Hu.out, Hv.out, hd]
        exact blk_drewN hP1.out _
    case rest =>
      obtain ⟨hR, hP2, hB⟩ := hcut
      clear hc1 hP1
      obtain ⟨u, Hu⟩ : ∃ x, Hid (upR rest m = x) := ⟨_, rfl⟩
      obtain ⟨v, Hv⟩ : ∃ x, Hid (revR rest m = x) := ⟨_, rfl⟩
      obtain ⟨bm, Hbm⟩ : ∃ x, Hid (decide (0 ≤ m) = x) := ⟨_, rfl⟩
      have hP := Lib.hid (Hbm.out ▸ Hu.out ▸ Hv.out ▸ hP2.out)
      clear hP2
      have hc0 := blk_cell hP.out 0
      have hc1 := blk_cell hP.out 1
      have hc2 := blk_cell hP.out 2
      have hc3 := blk_cell hP.out 3
      have hc4 := blk_cell hP.out 4
      have hr0 := blk_cell hR.out 0
      have hr1 := blk_cell hR.out 1
      have hr2 := blk_cell hR.out 2
      have hr3 := blk_cell hR.out 3
      have hr4 := blk_cell hR.out 4
      have hz0 := blk_frozen hR.out 0
      have hz1 := blk_frozen hR.out 1
      have hz2 := blk_frozen hR.out 2
      have hz3 := blk_frozen hR.out 3
      have hz4 := blk_frozen hR.out 4
      simp only [List.getElem?_toArray, List.getElem?_cons_succ, List.getElem?_cons_zero] at hc0 hc1 hc2 hc3 hc4 hr0 hr1 hr2 hr3 hr4
      go_wp2_with fail
      refine bodyPost_ret (results_cell_row rfl _ _ w.heap.size 112 #[.string ep, .string u, .string v, .bool bi, .bool bm] (0, 0) _ rfl (blk_put (blk_put (blk_put (blk_put (blk_put hR.out 0 _ rfl) 1 _ rfl) 2 _ rfl) 3 _ rfl) 4 _ rfl) Tryd.underlying112 rfl rfl) rfl ⟨?_, below_set (below_set (below_set (below_set (below_set hB.out (Nat.le_refl _)) (Nat.le_refl _)) (Nat.le_refl _)) (Nat.le_refl _)) (Nat.le_refl _)⟩
      rw [Hrest.out, Hu.out, Hv.out, Hep.out, Hbi.out, Hbm.out]
def depotref20_parted.f (k : Nat) (a0 : ByteArray) : Option (ByteArray × ByteArray × ByteArray × Bool × Bool) :=
  (depotref20_first.f k a0 58).bind fun i => (depotref20_last.f k (restR a0 i) 45).bind fun m =>
    if i + 1 ≤ a0.size ∧ m + 1 ≤ (restR a0 i).size ∧ (a0.size : Int) ≤ 140737488351232 ∧ ((restR a0 i).size : Int) ≤ 140737488351232 then some (epochR a0 i, upR (restR a0 i) m, revR (restR a0 i) m, decide (0 ≤ i), decide (0 ≤ m)) else none
theorem depotref20_parted.mono : ∀ a0 k, LeO (depotref20_parted.f k a0) (depotref20_parted.f (k + 1) a0) := by
  intro a0 k r h
  unfold depotref20_parted.f at h ⊢
  obtain ⟨c, hc, h⟩ := Option.bind_eq_some_iff.mp h
  obtain ⟨m, hm, h⟩ := Option.bind_eq_some_iff.mp h
  rw [depotref20_first.mono _ _ k c hc, Option.bind_some, depotref20_last.mono _ _ k m hm]
  exact h
theorem depotref20_parted.calls (k : Nat) (a0 : ByteArray) (r1 : ByteArray) (r2 : ByteArray) (r3 : ByteArray) (r4 : Bool) (r5 : Bool) (w : World) (h : depotref20_parted.f k a0 = some (r1, r2, r3, r4, r5)) :
    Calls Tryd.prog 73 #[.string a0] w fun e w' => e = .returned (.agg #[.string r1, .string r2, .string r3, .bool r4, .bool r5]) ∧ Below w.heap.size w w' := by
  unfold depotref20_parted.f at h
  obtain ⟨i, hi, h⟩ := Option.bind_eq_some_iff.mp h
  obtain ⟨m, hm, h⟩ := Option.bind_eq_some_iff.mp h
  split at h
  case isFalse => cases h
  case isTrue hz =>
    have h := Option.some.inj h
    simp only [Prod.mk.injEq] at h
    obtain ⟨rfl, rfl, rfl, rfl, rfl⟩ := h
    exact depotref20_parted.walk k a0 i m w hi hm hz.1 hz.2.1 hz.2.2.1 hz.2.2.2


/-! ### depotref20_digit: function 74 -/
def depotref20_digit.f (a0 : Int) : Option (Bool) := if a0 ≥ 48 then (some (decide (a0 ≤ 57))) else (some false)
set_option maxHeartbeats 8000000 in
set_option maxRecDepth 100000 in
theorem depotref20_digit.calls (a0 : Int) (r : Bool) (w : World) (h : depotref20_digit.f a0 = some r) :
    Calls Tryd.prog 74 #[.int .u8 a0] w fun e w' => e = .returned (.bool r) ∧ Drawn0 w w' := by
  have H : (if a0 ≥ 48 then (some (decide (a0 ≤ 57))) else (some false)) = some r := h
  clear h
  by_cases c2 : a0 ≥ 48
  · rw [if_pos c2] at H
    have c2b0 : decide (48 ≤ a0) = true := decide_eq_true c2
    clear c2
    obtain rfl := Option.some.inj H
    go_enter Tryd.func74, Tryd.ntmps74
    go_wp2
    go_ret
    exact ⟨by first | rfl | (simp; done) | (simp [*]; done), by repeat (first | exact Drawn0.refl _ | apply Drawn0.step)⟩
  · rw [if_neg c2] at H
    have c2b0 : decide (48 ≤ a0) = false := decide_eq_false c2
    clear c2
    obtain rfl := Option.some.inj H
    go_enter Tryd.func74, Tryd.ntmps74
    go_wp2
    go_ret
    exact ⟨by first | rfl | (simp; done) | (simp [*]; done), by repeat (first | exact Drawn0.refl _ | apply Drawn0.step)⟩

/-! ### depotref20_letter: function 75 -/
def depotref20_letter.f (a0 : Int) : Option (Bool) := if a0 ≥ 97 then (if a0 ≤ 122 then (some true) else (if a0 ≥ 65 then (some (decide (a0 ≤ 90))) else (some false))) else (if a0 ≥ 65 then (some (decide (a0 ≤ 90))) else (some false))
set_option maxHeartbeats 8000000 in
set_option maxRecDepth 100000 in
theorem depotref20_letter.calls (a0 : Int) (r : Bool) (w : World) (h : depotref20_letter.f a0 = some r) :
    Calls Tryd.prog 75 #[.int .u8 a0] w fun e w' => e = .returned (.bool r) ∧ Drawn0 w w' := by
  have H : (if a0 ≥ 97 then (if a0 ≤ 122 then (some true) else (if a0 ≥ 65 then (some (decide (a0 ≤ 90))) else (some false))) else (if a0 ≥ 65 then (some (decide (a0 ≤ 90))) else (some false))) = some r := h
  clear h
  by_cases c2 : a0 ≥ 97
  · rw [if_pos c2] at H
    have c2b0 : decide (97 ≤ a0) = true := decide_eq_true c2
    clear c2
    by_cases c3 : a0 ≤ 122
    · rw [if_pos c3] at H
      have c3b0 : decide (a0 ≤ 122) = true := decide_eq_true c3
      clear c3
      obtain rfl := Option.some.inj H
      go_enter Tryd.func75, Tryd.ntmps75
      go_wp2
      go_ret
      exact ⟨by first | rfl | (simp; done) | (simp [*]; done), by repeat (first | exact Drawn0.refl _ | apply Drawn0.step)⟩
    · rw [if_neg c3] at H
      have c3b0 : decide (a0 ≤ 122) = false := decide_eq_false c3
      clear c3
      by_cases c4 : a0 ≥ 65
      · rw [if_pos c4] at H
        have c4b0 : decide (65 ≤ a0) = true := decide_eq_true c4
        clear c4
        obtain rfl := Option.some.inj H
        go_enter Tryd.func75, Tryd.ntmps75
        go_wp2
        go_ret
        exact ⟨by first | rfl | (simp; done) | (simp [*]; done), by repeat (first | exact Drawn0.refl _ | apply Drawn0.step)⟩
      · rw [if_neg c4] at H
        have c4b0 : decide (65 ≤ a0) = false := decide_eq_false c4
        clear c4
        obtain rfl := Option.some.inj H
        go_enter Tryd.func75, Tryd.ntmps75
        go_wp2
        go_ret
        exact ⟨by first | rfl | (simp; done) | (simp [*]; done), by repeat (first | exact Drawn0.refl _ | apply Drawn0.step)⟩
  · rw [if_neg c2] at H
    have c2b0 : decide (97 ≤ a0) = false := decide_eq_false c2
    clear c2
    by_cases c5 : a0 ≥ 65
    · rw [if_pos c5] at H
      have c5b0 : decide (65 ≤ a0) = true := decide_eq_true c5
      clear c5
      obtain rfl := Option.some.inj H
      go_enter Tryd.func75, Tryd.ntmps75
      go_wp2
      go_ret
      exact ⟨by first | rfl | (simp; done) | (simp [*]; done), by repeat (first | exact Drawn0.refl _ | apply Drawn0.step)⟩
    · rw [if_neg c5] at H
      have c5b0 : decide (65 ≤ a0) = false := decide_eq_false c5
      clear c5
      obtain rfl := Option.some.inj H
      go_enter Tryd.func75, Tryd.ntmps75
      go_wp2
      go_ret
      exact ⟨by first | rfl | (simp; done) | (simp [*]; done), by repeat (first | exact Drawn0.refl _ | apply Drawn0.step)⟩

end Go.Proofs.YtmocooihkobdjaaDoor.B
