-- printed by wip/myprint.py of this session over the kit's print.py; Lean checks it
import Derived.Test.YtphabealejpfnaaDoorR0
import Derived.Test.YtphabealejpfnaaDoorR5
import Derived.Test.YtphabealejpfnaaDoorR11
namespace Go.Proofs.YtphabealejpfnaaDoor.R
open Go.RowKit Go.Proofs.YtphabealejpfnaaDoorW.PrintWords Go.Proofs.YtphabealejpfnaaDoorW.PrintLast Go.Proofs.YtphabealejpfnaaDoorW.PrintMore
attribute [local go_sem] max2_int min2_int max_two min_two max_three min_three max_four min_four   -- for this text's walks alone
set_option linter.unusedVariables false
set_option linter.unusedSimpArgs false

/-! ### depotref22_ReadList: function 19 -/
def depotref22_ReadList.l0 : Nat → List (List (S23)) → Int → Int → List (S23) → Int → Option ((List (S23)) × Int × Int)
  | 0, _, _, _, _, _ => none
  | k + 1, x5, x6, x7, x8, x9 => if x9 < (x5.length : Int) then (if 0 ≤ x9 then (if 0 < ((rd_L7 x5 x9).length : Int) then (if x8.length < 3518437208883 then (depotref22_ReadList.l0 k x5 x6 x7 (x8 ++ [(⟨(rd_T23 (rd_L7 x5 x9) 0).f0, (rd_T23 (rd_L7 x5 x9) 0).f1, (rd_T23 (rd_L7 x5 x9) 0).f2⟩ : S23)]) (wrap64 (x9 + 1))) else (none)) else (none)) else (none)) else (some (x8, x6, x7))
def depotref22_ReadList.f (k : Nat) (a0 : ByteArray) : Option ((List (S23)) × Int × Int) := (depotref22_lists.f k a0 false).bind fun bt208 => (depotref22_ReadList.l0 k bt208.1 bt208.2.1 bt208.2.2 ([] : List (S23)) 0)
theorem depotref22_ReadList.mono_l : ∀ k, (∀ y0 y1 y2 y3 y4, LeO (depotref22_ReadList.l0 k y0 y1 y2 y3 y4) (depotref22_ReadList.l0 (k + 1) y0 y1 y2 y3 y4))
  | 0 => fun _ _ _ _ _ r h => by simp [depotref22_ReadList.l0] at h
  | k + 1 => by
    have ih0 := depotref22_ReadList.mono_l k
    · intro y0 y1 y2 y3 y4
      unfold depotref22_ReadList.l0
      repeat' first
      | (with_reducible exact ih0 _ _ _ _ _)
      | (with_reducible exact depotref22_lists.mono _ _ _)
      | (with_reducible exact LeO.refl _)
      | (with_reducible exact LeO.none _)
      | (with_reducible refine LeO.ite ?_ ?_)
      | (with_reducible refine LeO.bind ?_ (fun _ => ?_))
      | exact ih0 _ _ _ _ _
      | exact depotref22_lists.mono _ _ _
      | exact LeO.none _
      | refine LeO.ite ?_ ?_
      | refine LeO.bind ?_ (fun _ => ?_)
theorem depotref22_ReadList.mono : ∀ a0 k, LeO (depotref22_ReadList.f k a0) (depotref22_ReadList.f (k + 1) a0) := by
  intro a0 k
  have ih0 := depotref22_ReadList.mono_l k
  unfold depotref22_ReadList.f
  repeat' first
      | (with_reducible exact ih0 _ _ _ _ _)
      | (with_reducible exact depotref22_lists.mono _ _ _)
      | (with_reducible exact LeO.refl _)
      | (with_reducible exact LeO.none _)
      | (with_reducible refine LeO.ite ?_ ?_)
      | (with_reducible refine LeO.bind ?_ (fun _ => ?_))
      | exact ih0 _ _ _ _ _
      | exact depotref22_lists.mono _ _ _
      | exact LeO.none _
      | refine LeO.ite ?_ ?_
      | refine LeO.bind ?_ (fun _ => ?_)
set_option maxHeartbeats 8000000 in
set_option maxRecDepth 100000 in
theorem depotref22_ReadList.calls (k : Nat) (a0 : ByteArray) (r1 : List (S23)) (r2 : Int) (r3 : Int) (w : World) (h : depotref22_ReadList.f k a0 = some (r1, r2, r3)) :
    Calls Tryd.prog 19 #[.string a0] w fun e w' => ∃ v0_ : Value, e = .returned (.tuple #[v0_, .int .i64 r2, .int .i64 r3]) ∧ Kd.R k23 23 w' w.heap.size (fun _ => True) v0_ r1 ∧ Below w.heap.size w w' := by
  have hu23 := Tryd.underlying23
  have HB := Aside0.mk (Below.refl w.heap.size w)
  have H : ((depotref22_lists.f k a0 false).bind fun bt208 => (depotref22_ReadList.l0 k bt208.1 bt208.2.1 bt208.2.2 ([] : List (S23)) 0)) = some (r1, r2, r3) := h
  clear h
  replace H := Option.bind_eq_some_iff.mp H
  obtain ⟨⟨t208, t209, t210⟩, A20, H⟩ := H
  replace H : (depotref22_ReadList.l0 k t208 t209 t210 ([] : List (S23)) 0) = some (r1, r2, r3) := H
  have A2 := Aside0.mk A20
  clear A20
  have H' := Aside0.mk H
  clear H
  go_enter Tryd.func19, Tryd.ntmps19
  go_wp2_with (first | ((with_reducible refine gate_callee (f := 43) rfl ?_); refine goesL_ (some 12) rfl rfl Tryd.func43 (by kernel_rfl) rfl #[.string a0, .bool false] rfl (by (try simp only [List.map_toArray, List.map_cons, List.map_nil]); first | done | rfl | (simp only [List.length_drop, List.length_take]; rfl)) ?_; (with_reducible refine (depotref22_lists.calls k a0 false t208 t209 t210 _ A2.out).mono ?_); rintro e w3 ⟨v211, rfl, ho0, hb⟩; refine ⟨_, rfl, ?_⟩; have n0_ := Aside0.mk (Kd.S_lower ho0 (below_size (by repeat (first | (with_reducible first | exact HB.out | apply below_alloc | apply pw_below_drewN | apply below_drew1) | exact HB.out)))); have n1_ := Aside0.mk (below_step (by repeat (first | (with_reducible first | exact HB.out | apply below_alloc | apply pw_below_drewN | apply below_drew1) | exact HB.out)) hb); clear HB; have HO212 := n0_; have HB := n1_; clear n0_ n1_; (try clear hb); (try clear hb2); (try clear hk); (try clear hi); (try clear ho0)))
  go_loopg [8, 9] k (fun kq v8 v9 w' => ∃ (x8_1 : List (S23)) (x9_1 : Int), v9 = .int .i64 x9_1 ∧ Aside0 (depotref22_ReadList.l0 kq t208 t209 t210 x8_1 x9_1 = some (r1, r2, r3)) ∧ Aside0 (kq ≤ k) ∧ Aside0 (Kd.S (Kd.slice 23 k23) 32 w' w.heap.size (fun k_ => some k_ ≠ (v8 : Value).ownBlock) v211 t208) ∧ Aside0 (Kd.R k23 23 w' w.heap.size (fun _ => True) v8 x8_1) ∧ Aside0 (Below w.heap.size w w'))
  case atStart => exact ⟨(([] : List (S23))), (0), (by first | rfl | (simp; done) | (simp [*]; done)), H', ⟨Nat.le_refl _⟩, ⟨by (with_reducible repeat (first | apply Kd.S_alloc | apply Kd.S_drewN | apply Kd.S_drew)); exact Kd.S_mono HO212.out (fun _ hk => (by simp [Value.ownBlock]))⟩, ⟨by first | exact Kd.R_nil _ _ _ _ _ | exact Kd.N_nil _ _ _ _ _ | exact Kd.V_nil _ _ _ _ _ | exact Kd.Q_nil _ _ _ _ _ | exact Kd.S_nil _ _ _ _ _⟩, ⟨by repeat (first | (with_reducible first | exact HB.out | apply below_alloc | apply pw_below_drewN | apply below_drew1) | exact HB.out)⟩⟩
  case round =>
    clear H'
    try clear c1
    try clear p2
    obtain ⟨x8_1, x9_1, rfl, HA, HK1, HO_5, HO_8, HB⟩ := hrel
    cases gk with
    | zero => exact absurd HA.out (by simp [depotref22_ReadList.l0])
    | succ k1 =>
      have H := HA.out
      clear HA
      simp only [depotref22_ReadList.l0] at H
      by_cases c4 : x9_1 < (t208.length : Int)
      · rw [if_pos c4] at H
        have c4b0 : decide (x9_1 < (t208.length : Int)) = true := decide_eq_true c4
        clear c4
        by_cases c5 : 0 ≤ x9_1
        · rw [if_pos c5] at H
          have c5b0 : decide (0 ≤ x9_1) = true := decide_eq_true c5
          clear c5
          by_cases c6 : 0 < ((rd_L7 t208 x9_1).length : Int)
          · rw [if_pos c6] at H
            have c6b0 : decide (0 < ((rd_L7 t208 x9_1).length : Int)) = true := decide_eq_true c6
            have c6b1 : decide (0 < (rd_L7 t208 x9_1).length) = true := decide_eq_true (by omega)
            clear c6
            by_cases c7 : x8_1.length < 3518437208883
            · rw [if_pos c7] at H
              have LMc7 := Aside0.mk c7
              clear c7
              obtain ⟨y215, hy215⟩ : ∃ y_ : List (S23), y_ = (x8_1 ++ [(⟨(rd_T23 (rd_L7 t208 x9_1) 0).f0, (rd_T23 (rd_L7 t208 x9_1) 0).f1, (rd_T23 (rd_L7 t208 x9_1) 0).f2⟩ : S23)]) := ⟨_, rfl⟩
              replace H : (depotref22_ReadList.l0 k1 t208 t209 t210 y215 (wrap64 (x9_1 + 1))) = some (r1, r2, r3) := by first | (rw [hy215]; with_reducible exact H) | (have H2_ := (Option.bind_some _ _).symm.trans H; rw [hy215]; with_reducible exact H2_) | (have H2_ := (Option.bind_some _ _).symm.trans H; with_reducible exact H2_) | with_reducible exact H | (rw [hy215]; exact H) | exact H
              have Ny215 := Aside0.mk hy215
              clear hy215
              have H' := Aside0.mk H
              clear H
              obtain ⟨Ao8, co8, eo8⟩ := Kd.S_slice HO_5.out
              subst eo8
              have p213 : 0 ≤ (x9_1 : Int) := of_decide_eq_true (by first | (with_reducible assumption) | assumption)
              have q213 : x9_1 < (t208.length : Int) := of_decide_eq_true (by first | (with_reducible assumption) | assumption)
              obtain ⟨ad213, A213_0, c213_0, e213, hx213_0, hl213_0, hi213_0⟩ := at_L7 (Kd.S_reads' HO_5.out).2.2 x9_1 p213 q213
              cases e213
              obtain ⟨ce213, hce213, hMe213, hcc213⟩ := Kd.S_get HO_5.out [] x9_1 p213 (by first | exact q213 | exact of_decide_eq_true (by first | (with_reducible assumption) | assumption) | (have e_ := (Kd.S_reads' HO_5.out).1; omega))
              obtain ⟨ve213_0, rfl, ge213_0⟩ := hMe213
              have hv213_0 := hcc213 0 _ rfl
              rw [Nat.add_zero, show ((Kd.slice 23 k23)).sz = 1 from rfl, Nat.mul_one] at hv213_0
              replace hv213_0 := Option.some.inj (hv213_0.symm.trans hx213_0)
              rw [hv213_0] at ge213_0
              have HL213_0 := Aside0.mk (show Kd.R k23 23 _ _ _ _ (rd_L7 t208 x9_1) from ge213_0)
              clear hv213_0 ge213_0
              clear hcc213 hce213
              have HR213_0 := Aside0.mk hi213_0
              have HC213_0 := Aside0.mk hl213_0
              clear hi213_0 hl213_0
              replace p213 := eq_true p213
              replace q213 := eq_true q213
              have p214 : 0 ≤ (0 : Int) := (by omega)
              have q214 : 0 < ((rd_L7 t208 x9_1).length : Int) := of_decide_eq_true (by first | (with_reducible assumption) | assumption)
              obtain ⟨ad214, e214, hx214_0, hx214_1, hx214_2⟩ := at_T23 (by repeat (first | (with_reducible exact HR213_0.out) | (with_reducible refine Kd.C_alloc ?_ _) | (with_reducible refine Kd.C_drewN ?_ _) | (with_reducible refine Kd.C_drew ?_) | exact HR213_0.out)) 0 p214 q214
              cases e214
              have qi214 : (0 < (rd_L7 t208 x9_1).length) = True := eq_true (by omega)
              (try rw [show ((0 : Int)).toNat = 0 from rfl] at hx214_0)
              (try rw [show 0 * 3 = 0 from rfl] at hx214_0)
              (try rw [Addr.add_zero'] at hx214_0)
              (try rw [show ((0 : Int)).toNat = 0 from rfl] at hx214_1)
              (try rw [show 0 * 3 = 0 from rfl] at hx214_1)
              (try rw [Addr.add_zero'] at hx214_1)
              (try rw [show ((0 : Int)).toNat = 0 from rfl] at hx214_2)
              (try rw [show 0 * 3 = 0 from rfl] at hx214_2)
              (try rw [Addr.add_zero'] at hx214_2)
              replace p214 := eq_true p214
              replace q214 := eq_true q214
              go_wp2_with (first | ((with_reducible refine gate_builtin (b := .append) (xs := #[.tmp 22, .tmp 29]) rfl ?_); at_builtin; refine Kd.R_append k23 (w0 := w) w.heap.size rfl (.tmp 22) (.tmp 29) 32 23 (.agg #[(.string ⟨#[]⟩), (.int .i64 0), (.string ⟨#[]⟩)]) 40 rfl Tryd.underlying32 info23 rfl (by decide) (by omega) u8 x8_1 (⟨(rd_T23 (rd_L7 t208 x9_1) 0).f0, (rd_T23 (rd_L7 t208 x9_1) 0).f1, (rd_T23 (rd_L7 t208 x9_1) 0).f2⟩ : S23) [.string ((rd_T23 (rd_L7 t208 x9_1) 0).f0), .int .i64 ((rd_T23 (rd_L7 t208 x9_1) 0).f1), .string ((rd_T23 (rd_L7 t208 x9_1) 0).f2)] (fun _ => True) (fun _ => False) rfl rfl ?aP (fun _ hk => hk.elim) ?aF ?aO ?aB ?aS ?aL ?_; (case aP => exact k23_mkM _ _ _ (⟨(rd_T23 (rd_L7 t208 x9_1) 0).f0, (rd_T23 (rd_L7 t208 x9_1) 0).f1, (rd_T23 (rd_L7 t208 x9_1) 0).f2⟩ : S23)); (case aB => exact (by repeat (first | (with_reducible first | exact HB.out | apply below_alloc | apply pw_below_drewN | apply below_drew1) | exact HB.out))); (case aF => exact (fun _ _ => trivial)); (case aO => exact (by (with_reducible repeat (first | apply Kd.R_alloc | apply Kd.R_drewN | apply Kd.R_drew)); exact HO_8.out)); (case aS => exact (below_size (by repeat (first | (with_reducible first | exact HB.out | apply below_alloc | apply pw_below_drewN | apply below_drew1) | exact HB.out)))); (case aL => have := LMc7.out; omega); intro v216 w9 ho hb hg hat; rw [← Ny215.out] at ho; have n0_ := Aside0.mk (Kd.S_after (ok := (fun _ => True)) (by (with_reducible repeat (first | apply Kd.S_alloc | apply Kd.S_drewN | apply Kd.S_drew)); exact Kd.S_mono HO_5.out (fun _ hk => ⟨trivial, hk⟩)) hg hat); have n1_ := Aside0.mk (Kd.R_after (ok := (fun k_ => some k_ ≠ (.slice (some ad213) t208.length co8 : Value).ownBlock)) (by (with_reducible repeat (first | apply Kd.R_alloc | apply Kd.R_drewN | apply Kd.R_drew)); exact Kd.R_mono HL213_0.out (fun _ hk => ⟨hk.2, hk.1⟩)) hg hat); have n2_ := Aside0.mk (hb); have n3_ := Aside0.mk (ho); clear HO_5; clear HL213_0; clear HB; clear HO_8; have HO_5 := n0_; have HL213_0 := n1_; have HB := n2_; have HO217 := n3_; clear n0_ n1_ n2_ n3_; clear ho hb hg hat))
              go_roundg k1
              case measure => have := HK1.out; omega
              case rel => exact ⟨(y215), (wrap64 (x9_1 + 1)), (by first | rfl | (simp; done) | (simp [*]; done)), H', ⟨by have := HK1.out; omega⟩, ⟨by (with_reducible repeat (first | apply Kd.S_alloc | apply Kd.S_drewN | apply Kd.S_drew)); exact Kd.S_mono HO_5.out (fun _ hk => hk.2)⟩, ⟨by (with_reducible repeat (first | apply Kd.R_alloc | apply Kd.R_drewN | apply Kd.R_drew)); exact HO217.out⟩, ⟨by repeat (first | (with_reducible first | exact HB.out | apply below_alloc | apply pw_below_drewN | apply below_drew1) | exact HB.out)⟩⟩
            · rw [if_neg c7] at H
              exact absurd H (by simp)
          · rw [if_neg c6] at H
            exact absurd H (by simp)
        · rw [if_neg c5] at H
          exact absurd H (by simp)
      · rw [if_neg c4] at H
        have c4b0 : decide (x9_1 < (t208.length : Int)) = false := decide_eq_false c4
        clear c4
        simp only [Option.some.injEq, Prod.mk.injEq] at H
        obtain ⟨rfl, rfl, rfl⟩ := H
        obtain ⟨Ao10, co10, eo10⟩ := Kd.S_slice HO_5.out
        subst eo10
        go_wp2
        go_ret3
        exact ⟨_, by first | rfl | (simp [errW_none, errW_some] <;> rfl) | (simp [*, errW_none, errW_some] <;> rfl), by (with_reducible repeat (first | apply Kd.R_alloc | apply Kd.R_drewN | apply Kd.R_drew)); exact HO_8.out, by repeat (first | (with_reducible first | exact HB.out | apply below_alloc | apply pw_below_drewN | apply below_drew1) | exact HB.out)⟩

/-! ### depotlaw22_RelationReads: function 4 -/
def depotlaw22_RelationReads.j0 : Nat → ByteArray → Bool → Option (Bool)
  | 0, _, _ => none
  | k + 1, x0, x36 => if x36 = true then (some false) else ((relation_ReadList.f k x0).bind fun bt229 => ((depotref22_ReadList.f k x0).bind fun bt234 => (if bt229.2.1 = bt234.2.1 then (if bt229.2.2 = bt234.2.2 then ((depotlaw22_same.f k bt229.1 bt234.1).bind fun t239 => (some t239)) else (some false)) else (some false))))
def depotlaw22_RelationReads.f (k : Nat) (a0 : ByteArray) : Option (Bool) := (relation_Read.f k a0).bind fun bt218 => ((depotref22_Read.f k a0).bind fun bt223 => (if bt218.2.1 = bt223.2.1 then (if bt218.2.2 = bt223.2.2 then ((depotlaw22_alike.f k bt218.1 bt223.1).bind fun t228 => (depotlaw22_RelationReads.j0 k a0 (!t228))) else (depotlaw22_RelationReads.j0 k a0 true)) else (depotlaw22_RelationReads.j0 k a0 true)))
theorem depotlaw22_RelationReads.mono_l : ∀ k, (∀ y0 y1, LeO (depotlaw22_RelationReads.j0 k y0 y1) (depotlaw22_RelationReads.j0 (k + 1) y0 y1))
  | 0 => fun _ _ r h => by simp [depotlaw22_RelationReads.j0] at h
  | k + 1 => by
    have ih0 := depotlaw22_RelationReads.mono_l k
    · intro y0 y1
      unfold depotlaw22_RelationReads.j0
      repeat' first
      | (with_reducible exact ih0 _ _)
      | (with_reducible exact depotlaw22_alike.mono _ _ _)
      | (with_reducible exact depotlaw22_same.mono _ _ _)
      | (with_reducible exact depotref22_Read.mono _ _)
      | (with_reducible exact depotref22_ReadList.mono _ _)
      | (with_reducible exact relation_Read.mono _ _)
      | (with_reducible exact relation_ReadList.mono _ _)
      | (with_reducible exact LeO.refl _)
      | (with_reducible exact LeO.none _)
      | (with_reducible refine LeO.ite ?_ ?_)
      | (with_reducible refine LeO.bind ?_ (fun _ => ?_))
      | exact ih0 _ _
      | exact depotlaw22_alike.mono _ _ _
      | exact depotlaw22_same.mono _ _ _
      | exact depotref22_Read.mono _ _
      | exact depotref22_ReadList.mono _ _
      | exact relation_Read.mono _ _
      | exact relation_ReadList.mono _ _
      | exact LeO.none _
      | refine LeO.ite ?_ ?_
      | refine LeO.bind ?_ (fun _ => ?_)
theorem depotlaw22_RelationReads.mono : ∀ a0 k, LeO (depotlaw22_RelationReads.f k a0) (depotlaw22_RelationReads.f (k + 1) a0) := by
  intro a0 k
  have ih0 := depotlaw22_RelationReads.mono_l k
  unfold depotlaw22_RelationReads.f
  repeat' first
      | (with_reducible exact ih0 _ _)
      | (with_reducible exact depotlaw22_alike.mono _ _ _)
      | (with_reducible exact depotlaw22_same.mono _ _ _)
      | (with_reducible exact depotref22_Read.mono _ _)
      | (with_reducible exact depotref22_ReadList.mono _ _)
      | (with_reducible exact relation_Read.mono _ _)
      | (with_reducible exact relation_ReadList.mono _ _)
      | (with_reducible exact LeO.refl _)
      | (with_reducible exact LeO.none _)
      | (with_reducible refine LeO.ite ?_ ?_)
      | (with_reducible refine LeO.bind ?_ (fun _ => ?_))
      | exact ih0 _ _
      | exact depotlaw22_alike.mono _ _ _
      | exact depotlaw22_same.mono _ _ _
      | exact depotref22_Read.mono _ _
      | exact depotref22_ReadList.mono _ _
      | exact relation_Read.mono _ _
      | exact relation_ReadList.mono _ _
      | exact LeO.none _
      | refine LeO.ite ?_ ?_
      | refine LeO.bind ?_ (fun _ => ?_)
set_option maxHeartbeats 8000000 in
set_option maxRecDepth 100000 in
theorem depotlaw22_RelationReads.calls (k : Nat) (a0 : ByteArray) (r : Bool) (w : World) (hG : GG w) (h : depotlaw22_RelationReads.f k a0 = some r) :
    Calls Tryd.prog 4 #[.string a0] w fun e w' => e = .returned (.bool r) ∧ Below w.heap.size w w' := by
  have HB := Aside0.mk (Below.refl w.heap.size w)
  have HG := Aside0.mk hG
  clear hG
  have H : ((relation_Read.f k a0).bind fun bt218 => ((depotref22_Read.f k a0).bind fun bt223 => (if bt218.2.1 = bt223.2.1 then (if bt218.2.2 = bt223.2.2 then ((depotlaw22_alike.f k bt218.1 bt223.1).bind fun t228 => (depotlaw22_RelationReads.j0 k a0 (!t228))) else (depotlaw22_RelationReads.j0 k a0 true)) else (depotlaw22_RelationReads.j0 k a0 true)))) = some r := h
  clear h
  replace H := Option.bind_eq_some_iff.mp H
  obtain ⟨⟨t218, t219, t220⟩, A20, H⟩ := H
  replace H : ((depotref22_Read.f k a0).bind fun bt223 => (if t219 = bt223.2.1 then (if t220 = bt223.2.2 then ((depotlaw22_alike.f k t218 bt223.1).bind fun t228 => (depotlaw22_RelationReads.j0 k a0 (!t228))) else (depotlaw22_RelationReads.j0 k a0 true)) else (depotlaw22_RelationReads.j0 k a0 true))) = some r := H
  have A2 := Aside0.mk A20
  clear A20
  replace H := Option.bind_eq_some_iff.mp H
  obtain ⟨⟨t223, t224, t225⟩, A30, H⟩ := H
  replace H : (if t219 = t224 then (if t220 = t225 then ((depotlaw22_alike.f k t218 t223).bind fun t228 => (depotlaw22_RelationReads.j0 k a0 (!t228))) else (depotlaw22_RelationReads.j0 k a0 true)) else (depotlaw22_RelationReads.j0 k a0 true)) = some r := H
  have A3 := Aside0.mk A30
  clear A30
  have HC4 := Aside0.mk H
  clear H
  go_enter Tryd.func4, Tryd.ntmps4
  go_upto_region 3 with (first | ((with_reducible refine gate_callee (f := 15) rfl ?_); refine goesL_ (some 13) rfl rfl Tryd.func15 (by kernel_rfl) rfl #[.string a0] rfl (by (try simp only [List.map_toArray, List.map_cons, List.map_nil]); first | done | rfl | (simp only [List.length_drop, List.length_take]; rfl)) ?_; (with_reducible refine (relation_Read.calls k a0 t218 t219 t220 _ ?side1 A2.out).mono ?_); (case side1 => exact GG.below HG.out (by repeat (first | (with_reducible first | exact HB.out | apply below_alloc | apply pw_below_drewN | apply below_drew1) | exact HB.out))); rintro e w5 ⟨v221, rfl, ho0, hb⟩; refine ⟨_, rfl, ?_⟩; have n0_ := Aside0.mk (Kd.S_lower ho0 (below_size (by repeat (first | (with_reducible first | exact HB.out | apply below_alloc | apply pw_below_drewN | apply below_drew1) | exact HB.out)))); have n1_ := Aside0.mk (below_step (by repeat (first | (with_reducible first | exact HB.out | apply below_alloc | apply pw_below_drewN | apply below_drew1) | exact HB.out)) hb); clear HB; have HO222 := n0_; have HB := n1_; clear n0_ n1_; (try clear hb); (try clear hb2); (try clear hk); (try clear hi); (try clear ho0)) | ((with_reducible refine gate_callee (f := 16) rfl ?_); refine goesL_ (some 19) rfl rfl Tryd.func16 (by kernel_rfl) rfl #[.string a0] rfl (by (try simp only [List.map_toArray, List.map_cons, List.map_nil]); first | done | rfl | (simp only [List.length_drop, List.length_take]; rfl)) ?_; (with_reducible refine (depotref22_Read.calls k a0 t223 t224 t225 _ A3.out).mono ?_); rintro e w6 ⟨v226, rfl, ho0, hb⟩; refine ⟨_, rfl, ?_⟩; have n0_ := Aside0.mk (Kd.S_elder' (by (with_reducible repeat (first | apply Kd.S_alloc | apply Kd.S_drewN | apply Kd.S_drew)); exact HO222.out) (Kd.S_base ho0) hb); have n1_ := Aside0.mk (Kd.S_lower (Kd.S_new' ho0 (Kd.S_lt (by (with_reducible repeat (first | apply Kd.S_alloc | apply Kd.S_drewN | apply Kd.S_drew)); exact HO222.out))) (below_size (by repeat (first | (with_reducible first | exact HB.out | apply below_alloc | apply pw_below_drewN | apply below_drew1) | exact HB.out)))); have n2_ := Aside0.mk (below_step (by repeat (first | (with_reducible first | exact HB.out | apply below_alloc | apply pw_below_drewN | apply below_drew1) | exact HB.out)) hb); clear HO222; clear HB; have HO222 := n0_; have HO227 := n1_; have HB := n2_; clear n0_ n1_ n2_; (try clear hb); (try clear hb2); (try clear hk); (try clear hi); (try clear ho0)))
  (try simp only [Act.put, List.setIfInBounds_toArray, List.set_cons_zero, List.set_cons_succ])
  go_cut [36] (fun v36 wc => ∃ (kq : Nat) (x36_3 : Bool), v36 = .bool x36_3 ∧ Aside0 (depotlaw22_RelationReads.j0 kq a0 x36_3 = some r) ∧ Aside0 (kq ≤ k) ∧ Aside0 (Below w.heap.size w wc))
  case first =>
    have H := HC4.out
    clear HC4
    by_cases c7 : t219 = t224
    · rw [if_pos c7] at H
      have c7b0 : (t219 == t224) = true := beq_iff_eq.mpr c7
      have c7b1 : (t219 != t224) = false := bne_eq_false_iff_eq.mpr c7
      clear c7
      (first | rw [c7b0] | (simp only [i64_w, i32_w]; rw [c7b0]) | skip)
      by_cases c8 : t220 = t225
      · rw [if_pos c8] at H
        have c8b0 : (t220 == t225) = true := beq_iff_eq.mpr c8
        have c8b1 : (t220 != t225) = false := bne_eq_false_iff_eq.mpr c8
        clear c8
        replace H := Option.bind_eq_some_iff.mp H
        obtain ⟨t228, A90, H⟩ := H
        replace H : (depotlaw22_RelationReads.j0 k a0 (!t228)) = some r := H
        have A9 := Aside0.mk A90
        clear A90
        have H' := Aside0.mk H
        clear H
        obtain ⟨Ao10, co10, eo10⟩ := Kd.S_slice HO222.out
        subst eo10
        obtain ⟨Ao11, co11, eo11⟩ := Kd.S_slice HO227.out
        subst eo11
        go_wp2_with (first | (go_at_call 17; (with_reducible refine (depotlaw22_alike.calls k _ _ t218 _ _ t223 t228 _ ?side1 ?side2 ?side3 ?side4 A9.out).mono ?_); (case side1 => repeat (first | exact (Kd.S_reads' HO222.out).2.2 | (with_reducible refine Kd.C_alloc ?_ _) | (with_reducible refine Kd.C_drewN ?_ _) | (with_reducible refine Kd.C_drew ?_))); (case side2 => exact (Kd.S_reads' HO222.out).2.1); (case side3 => repeat (first | exact (Kd.S_reads' HO227.out).2.2 | (with_reducible refine Kd.C_alloc ?_ _) | (with_reducible refine Kd.C_drewN ?_ _) | (with_reducible refine Kd.C_drew ?_))); (case side4 => exact (Kd.S_reads' HO227.out).2.1); rintro e w' ⟨rfl, ⟨nd, rfl⟩⟩))
        go_meet
        case rel => exact ⟨_, (!t228), (by first | rfl | (simp; done) | (simp [*]; done)), H', ⟨by first | omega | exact Nat.le_refl _⟩, ⟨by repeat (first | (with_reducible first | exact HB.out | apply below_alloc | apply pw_below_drewN | apply below_drew1) | exact HB.out)⟩⟩
      · rw [if_neg c8] at H
        have c8b0 : (t220 == t225) = false := beq_eq_false_iff_ne.mpr c8
        have c8b1 : (t220 != t225) = true := bne_iff_ne.mpr c8
        have H' := Aside0.mk H
        clear H
        go_wp2
        go_meet
        case rel => exact ⟨_, (true), (by first | rfl | (simp; done) | (simp [*]; done)), H', ⟨by first | omega | exact Nat.le_refl _⟩, ⟨by repeat (first | (with_reducible first | exact HB.out | apply below_alloc | apply pw_below_drewN | apply below_drew1) | exact HB.out)⟩⟩
    · rw [if_neg c7] at H
      have c7b0 : (t219 == t224) = false := beq_eq_false_iff_ne.mpr c7
      have c7b1 : (t219 != t224) = true := bne_iff_ne.mpr c7
      (first | rw [c7b0] | (simp only [i64_w, i32_w]; rw [c7b0]) | skip)
      have H' := Aside0.mk H
      clear H
      go_wp2
      go_meet
      case rel => exact ⟨_, (true), (by first | rfl | (simp; done) | (simp [*]; done)), H', ⟨by first | omega | exact Nat.le_refl _⟩, ⟨by repeat (first | (with_reducible first | exact HB.out | apply below_alloc | apply pw_below_drewN | apply below_drew1) | exact HB.out)⟩⟩
  case rest =>
    clear HC4
    try clear c1
    try clear p2
    try clear c4
    try clear c7
    try clear c7b0
    try clear c7b1
    try clear c8
    try clear c8b0
    try clear c8b1
    obtain ⟨kq, x36_3, rfl, HA, HJ3, HB⟩ := hcut
    cases kq with
    | zero => exact absurd HA.out (by simp [depotlaw22_RelationReads.j0])
    | succ kj3 =>
      have H := HA.out
      clear HA
      simp only [depotlaw22_RelationReads.j0] at H
      by_cases c12 : x36_3 = true
      · subst c12
        have H1 : (some false) = some r := by rw [if_pos rfl] at H; exact H
        clear H
        have H := H1
        clear H1
        obtain rfl := Option.some.inj H
        go_wp2
        go_ret
        exact ⟨by first | rfl | (simp [errW_none, errW_some] <;> rfl) | (simp [*, errW_none, errW_some] <;> rfl), by repeat (first | (with_reducible first | exact HB.out | apply below_alloc | apply pw_below_drewN | apply below_drew1) | exact HB.out)⟩
      · replace c12 := Bool.eq_false_iff.mpr c12
        subst c12
        have H1 : ((relation_ReadList.f kj3 a0).bind fun bt229 => ((depotref22_ReadList.f kj3 a0).bind fun bt234 => (if bt229.2.1 = bt234.2.1 then (if bt229.2.2 = bt234.2.2 then ((depotlaw22_same.f kj3 bt229.1 bt234.1).bind fun t239 => (some t239)) else (some false)) else (some false)))) = some r := by rw [if_neg (show ¬ (false = true) by decide)] at H; exact H
        clear H
        have H := H1
        clear H1
        replace H := Option.bind_eq_some_iff.mp H
        obtain ⟨⟨t229, t230, t231⟩, A130, H⟩ := H
        replace H : ((depotref22_ReadList.f kj3 a0).bind fun bt234 => (if t230 = bt234.2.1 then (if t231 = bt234.2.2 then ((depotlaw22_same.f kj3 t229 bt234.1).bind fun t239 => (some t239)) else (some false)) else (some false))) = some r := H
        have A13 := Aside0.mk A130
        clear A130
        replace H := Option.bind_eq_some_iff.mp H
        obtain ⟨⟨t234, t235, t236⟩, A140, H⟩ := H
        replace H : (if t230 = t235 then (if t231 = t236 then ((depotlaw22_same.f kj3 t229 t234).bind fun t239 => (some t239)) else (some false)) else (some false)) = some r := H
        have A14 := Aside0.mk A140
        clear A140
        by_cases c15 : t230 = t235
        · rw [if_pos c15] at H
          have c15b0 : (t230 == t235) = true := beq_iff_eq.mpr c15
          have c15b1 : (t230 != t235) = false := bne_eq_false_iff_eq.mpr c15
          clear c15
          by_cases c16 : t231 = t236
          · rw [if_pos c16] at H
            have c16b0 : (t231 == t236) = true := beq_iff_eq.mpr c16
            have c16b1 : (t231 != t236) = false := bne_eq_false_iff_eq.mpr c16
            clear c16
            replace H := Option.bind_eq_some_iff.mp H
            obtain ⟨t239, A170, H⟩ := H
            replace H : (some t239) = some r := H
            have A17 := Aside0.mk A170
            clear A170
            obtain rfl := Option.some.inj H
            go_wp2_with (first | ((with_reducible refine gate_callee (f := 18) rfl ?_); refine goesL_ (some 39) rfl rfl Tryd.func18 (by kernel_rfl) rfl #[.string a0] rfl (by (try simp only [List.map_toArray, List.map_cons, List.map_nil]); first | done | rfl | (simp only [List.length_drop, List.length_take]; rfl)) ?_; (with_reducible refine (relation_ReadList.calls kj3 a0 t229 t230 t231 _ ?side1 A13.out).mono ?_); (case side1 => exact GG.below HG.out (by repeat (first | (with_reducible first | exact HB.out | apply below_alloc | apply pw_below_drewN | apply below_drew1) | exact HB.out))); rintro e w18 ⟨v232, rfl, ho0, hb⟩; refine ⟨_, rfl, ?_⟩; have n0_ := Aside0.mk (Kd.R_lower ho0 (below_size (by repeat (first | (with_reducible first | exact HB.out | apply below_alloc | apply pw_below_drewN | apply below_drew1) | exact HB.out)))); have n1_ := Aside0.mk (below_step (by repeat (first | (with_reducible first | exact HB.out | apply below_alloc | apply pw_below_drewN | apply below_drew1) | exact HB.out)) hb); clear HB; have HO233 := n0_; have HB := n1_; clear n0_ n1_; (try clear hb); (try clear hb2); (try clear hk); (try clear hi); (try clear ho0)) | ((with_reducible refine gate_callee (f := 19) rfl ?_); refine goesL_ (some 45) rfl rfl Tryd.func19 (by kernel_rfl) rfl #[.string a0] rfl (by (try simp only [List.map_toArray, List.map_cons, List.map_nil]); first | done | rfl | (simp only [List.length_drop, List.length_take]; rfl)) ?_; (with_reducible refine (depotref22_ReadList.calls kj3 a0 t234 t235 t236 _ A14.out).mono ?_); rintro e w19 ⟨v237, rfl, ho0, hb⟩; refine ⟨_, rfl, ?_⟩; have n0_ := Aside0.mk (Kd.R_elder' (by (with_reducible repeat (first | apply Kd.R_alloc | apply Kd.R_drewN | apply Kd.R_drew)); exact HO233.out) (Kd.R_base ho0) hb); have n1_ := Aside0.mk (Kd.R_lower (Kd.R_new' ho0 (Kd.R_lt (by (with_reducible repeat (first | apply Kd.R_alloc | apply Kd.R_drewN | apply Kd.R_drew)); exact HO233.out))) (below_size (by repeat (first | (with_reducible first | exact HB.out | apply below_alloc | apply pw_below_drewN | apply below_drew1) | exact HB.out)))); have n2_ := Aside0.mk (below_step (by repeat (first | (with_reducible first | exact HB.out | apply below_alloc | apply pw_below_drewN | apply below_drew1) | exact HB.out)) hb); clear HO233; clear HB; have HO233 := n0_; have HO238 := n1_; have HB := n2_; clear n0_ n1_ n2_; (try clear hb); (try clear hb2); (try clear hk); (try clear hi); (try clear ho0); obtain ⟨Ao20, co20, eo20⟩ := Kd.R_slice HO233.out; subst eo20; obtain ⟨Ao21, co21, eo21⟩ := Kd.R_slice HO238.out; subst eo21) | (go_at_call 20; (with_reducible refine (depotlaw22_same.calls kj3 _ _ t229 _ _ t234 t239 _ ?side1 ?side2 ?side3 ?side4 A17.out).mono ?_); (case side1 => repeat (first | exact (Kd.R_reads' HO233.out).2.2 | (with_reducible refine Kd.C_alloc ?_ _) | (with_reducible refine Kd.C_drewN ?_ _) | (with_reducible refine Kd.C_drew ?_))); (case side2 => exact (Kd.R_reads' HO233.out).2.1); (case side3 => repeat (first | exact (Kd.R_reads' HO238.out).2.2 | (with_reducible refine Kd.C_alloc ?_ _) | (with_reducible refine Kd.C_drewN ?_ _) | (with_reducible refine Kd.C_drew ?_))); (case side4 => exact (Kd.R_reads' HO238.out).2.1); rintro e w' ⟨rfl, ⟨nd, rfl⟩⟩))
            go_ret
            exact ⟨by first | rfl | (simp [errW_none, errW_some] <;> rfl) | (simp [*, errW_none, errW_some] <;> rfl), by repeat (first | (with_reducible first | exact HB.out | apply below_alloc | apply pw_below_drewN | apply below_drew1) | exact HB.out)⟩
          · rw [if_neg c16] at H
            have c16b0 : (t231 == t236) = false := beq_eq_false_iff_ne.mpr c16
            have c16b1 : (t231 != t236) = true := bne_iff_ne.mpr c16
            obtain rfl := Option.some.inj H
            go_wp2_with (first | ((with_reducible refine gate_callee (f := 18) rfl ?_); refine goesL_ (some 39) rfl rfl Tryd.func18 (by kernel_rfl) rfl #[.string a0] rfl (by (try simp only [List.map_toArray, List.map_cons, List.map_nil]); first | done | rfl | (simp only [List.length_drop, List.length_take]; rfl)) ?_; (with_reducible refine (relation_ReadList.calls kj3 a0 t229 t230 t231 _ ?side1 A13.out).mono ?_); (case side1 => exact GG.below HG.out (by repeat (first | (with_reducible first | exact HB.out | apply below_alloc | apply pw_below_drewN | apply below_drew1) | exact HB.out))); rintro e w22 ⟨v232, rfl, ho0, hb⟩; refine ⟨_, rfl, ?_⟩; have n0_ := Aside0.mk (Kd.R_lower ho0 (below_size (by repeat (first | (with_reducible first | exact HB.out | apply below_alloc | apply pw_below_drewN | apply below_drew1) | exact HB.out)))); have n1_ := Aside0.mk (below_step (by repeat (first | (with_reducible first | exact HB.out | apply below_alloc | apply pw_below_drewN | apply below_drew1) | exact HB.out)) hb); clear HB; have HO233 := n0_; have HB := n1_; clear n0_ n1_; (try clear hb); (try clear hb2); (try clear hk); (try clear hi); (try clear ho0)) | ((with_reducible refine gate_callee (f := 19) rfl ?_); refine goesL_ (some 45) rfl rfl Tryd.func19 (by kernel_rfl) rfl #[.string a0] rfl (by (try simp only [List.map_toArray, List.map_cons, List.map_nil]); first | done | rfl | (simp only [List.length_drop, List.length_take]; rfl)) ?_; (with_reducible refine (depotref22_ReadList.calls kj3 a0 t234 t235 t236 _ A14.out).mono ?_); rintro e w23 ⟨v237, rfl, ho0, hb⟩; refine ⟨_, rfl, ?_⟩; have n0_ := Aside0.mk (Kd.R_elder' (by (with_reducible repeat (first | apply Kd.R_alloc | apply Kd.R_drewN | apply Kd.R_drew)); exact HO233.out) (Kd.R_base ho0) hb); have n1_ := Aside0.mk (Kd.R_lower (Kd.R_new' ho0 (Kd.R_lt (by (with_reducible repeat (first | apply Kd.R_alloc | apply Kd.R_drewN | apply Kd.R_drew)); exact HO233.out))) (below_size (by repeat (first | (with_reducible first | exact HB.out | apply below_alloc | apply pw_below_drewN | apply below_drew1) | exact HB.out)))); have n2_ := Aside0.mk (below_step (by repeat (first | (with_reducible first | exact HB.out | apply below_alloc | apply pw_below_drewN | apply below_drew1) | exact HB.out)) hb); clear HO233; clear HB; have HO233 := n0_; have HO238 := n1_; have HB := n2_; clear n0_ n1_ n2_; (try clear hb); (try clear hb2); (try clear hk); (try clear hi); (try clear ho0)))
            go_ret
            exact ⟨by first | rfl | (simp [errW_none, errW_some] <;> rfl) | (simp [*, errW_none, errW_some] <;> rfl), by repeat (first | (with_reducible first | exact HB.out | apply below_alloc | apply pw_below_drewN | apply below_drew1) | exact HB.out)⟩
        · rw [if_neg c15] at H
          have c15b0 : (t230 == t235) = false := beq_eq_false_iff_ne.mpr c15
          have c15b1 : (t230 != t235) = true := bne_iff_ne.mpr c15
          obtain rfl := Option.some.inj H
          go_wp2_with (first | ((with_reducible refine gate_callee (f := 18) rfl ?_); refine goesL_ (some 39) rfl rfl Tryd.func18 (by kernel_rfl) rfl #[.string a0] rfl (by (try simp only [List.map_toArray, List.map_cons, List.map_nil]); first | done | rfl | (simp only [List.length_drop, List.length_take]; rfl)) ?_; (with_reducible refine (relation_ReadList.calls kj3 a0 t229 t230 t231 _ ?side1 A13.out).mono ?_); (case side1 => exact GG.below HG.out (by repeat (first | (with_reducible first | exact HB.out | apply below_alloc | apply pw_below_drewN | apply below_drew1) | exact HB.out))); rintro e w24 ⟨v232, rfl, ho0, hb⟩; refine ⟨_, rfl, ?_⟩; have n0_ := Aside0.mk (Kd.R_lower ho0 (below_size (by repeat (first | (with_reducible first | exact HB.out | apply below_alloc | apply pw_below_drewN | apply below_drew1) | exact HB.out)))); have n1_ := Aside0.mk (below_step (by repeat (first | (with_reducible first | exact HB.out | apply below_alloc | apply pw_below_drewN | apply below_drew1) | exact HB.out)) hb); clear HB; have HO233 := n0_; have HB := n1_; clear n0_ n1_; (try clear hb); (try clear hb2); (try clear hk); (try clear hi); (try clear ho0)) | ((with_reducible refine gate_callee (f := 19) rfl ?_); refine goesL_ (some 45) rfl rfl Tryd.func19 (by kernel_rfl) rfl #[.string a0] rfl (by (try simp only [List.map_toArray, List.map_cons, List.map_nil]); first | done | rfl | (simp only [List.length_drop, List.length_take]; rfl)) ?_; (with_reducible refine (depotref22_ReadList.calls kj3 a0 t234 t235 t236 _ A14.out).mono ?_); rintro e w25 ⟨v237, rfl, ho0, hb⟩; refine ⟨_, rfl, ?_⟩; have n0_ := Aside0.mk (Kd.R_elder' (by (with_reducible repeat (first | apply Kd.R_alloc | apply Kd.R_drewN | apply Kd.R_drew)); exact HO233.out) (Kd.R_base ho0) hb); have n1_ := Aside0.mk (Kd.R_lower (Kd.R_new' ho0 (Kd.R_lt (by (with_reducible repeat (first | apply Kd.R_alloc | apply Kd.R_drewN | apply Kd.R_drew)); exact HO233.out))) (below_size (by repeat (first | (with_reducible first | exact HB.out | apply below_alloc | apply pw_below_drewN | apply below_drew1) | exact HB.out)))); have n2_ := Aside0.mk (below_step (by repeat (first | (with_reducible first | exact HB.out | apply below_alloc | apply pw_below_drewN | apply below_drew1) | exact HB.out)) hb); clear HO233; clear HB; have HO233 := n0_; have HO238 := n1_; have HB := n2_; clear n0_ n1_ n2_; (try clear hb); (try clear hb2); (try clear hk); (try clear hi); (try clear ho0)))
          go_ret
          exact ⟨by first | rfl | (simp [errW_none, errW_some] <;> rfl) | (simp [*, errW_none, errW_some] <;> rfl), by repeat (first | (with_reducible first | exact HB.out | apply below_alloc | apply pw_below_drewN | apply below_drew1) | exact HB.out)⟩

/-- THE ONE PURE STATEMENT of depotlaw22_RelationReads: yours. -/
def depotlaw22_RelationReads.Pure : Prop := ∀ (a0 : ByteArray), a0.size ≤ 140737488351232 → ∃ k, depotlaw22_RelationReads.f k a0 = some true
theorem depotlaw22_RelationReads.walk (P : depotlaw22_RelationReads.Pure) (a0 : ByteArray) (w : World) (w0 : a0.size ≤ 140737488351232) (hG : GG w) :
    Calls Tryd.prog 4 #[.string a0] w fun e w' => e = .returned (.bool true) ∧ Below w.heap.size w w' := by
  obtain ⟨k, h⟩ := P a0 w0
  refine (depotlaw22_RelationReads.calls k a0 true w hG h).mono ?_
  rintro e w' ⟨rfl, hd⟩
  exact ⟨rfl, hd⟩

end Go.Proofs.YtphabealejpfnaaDoor.R
