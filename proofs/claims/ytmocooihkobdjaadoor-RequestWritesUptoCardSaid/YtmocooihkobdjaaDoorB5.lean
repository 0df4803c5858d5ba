-- printed by wip/myprint.py of this session over the kit's print.py; Lean checks it
import Derived.Test.YtmocooihkobdjaaDoorB0
import Derived.Test.YtmocooihkobdjaaDoorB3
import Derived.Test.YtmocooihkobdjaaDoorB4
namespace Go.Proofs.YtmocooihkobdjaaDoor.B
open Go.RowKit Go.Proofs.YtmocooihkobdjaaDoorW.PrintWords Go.Proofs.YtmocooihkobdjaaDoorW.PrintLast Go.Proofs.YtmocooihkobdjaaDoorW.PrintMore
attribute [local go_sem] max2_int min2_int max_two min_two max_three min_three max_four min_four   -- for this text's walks alone
set_option linter.unusedVariables false
set_option linter.unusedSimpArgs false

/-! ### request_Write: function 17 -/
/-- A line: a word, what it speaks of, the line's end. -/
def request_Write.line (w t : ByteArray) : ByteArray := ((w ++ (⟨#[32]⟩ : ByteArray)) ++ t) ++ (⟨#[10]⟩ : ByteArray)
def request_Write.insW : ByteArray := ⟨#[105, 110, 115, 116, 97, 108, 108]⟩
def request_Write.forbW : ByteArray := ⟨#[102, 111, 114, 98, 105, 100]⟩
def request_Write.wishW (avoid : Bool) : ByteArray := if avoid = true then ⟨#[97, 118, 111, 105, 100]⟩ else ⟨#[112, 114, 101, 102, 101, 114]⟩
theorem request_Write.ta_ii (v : Value) (w : World) : (Instr.typeAssert (.iface 65 v) 77 65 true).run Tryd.prog w = .ok (.tuple #[v, .bool true]) w := by kernel_rfl
theorem request_Write.ta_fi (v : Value) (w : World) : (Instr.typeAssert (.iface 66 v) 77 65 true).run Tryd.prog w = .ok (.tuple #[.slice none 0 0, .bool false]) w := by kernel_rfl
theorem request_Write.ta_ff (v : Value) (w : World) : (Instr.typeAssert (.iface 66 v) 77 66 true).run Tryd.prog w = .ok (.tuple #[v, .bool true]) w := by kernel_rfl
theorem request_Write.ta_wi (v : Value) (w : World) : (Instr.typeAssert (.iface 68 v) 77 65 true).run Tryd.prog w = .ok (.tuple #[.slice none 0 0, .bool false]) w := by kernel_rfl
theorem request_Write.ta_wf (v : Value) (w : World) : (Instr.typeAssert (.iface 68 v) 77 66 true).run Tryd.prog w = .ok (.tuple #[.slice none 0 0, .bool false]) w := by kernel_rfl
theorem request_Write.ta_ww (v : Value) (w : World) : (Instr.typeAssert (.iface 68 v) 77 68 true).run Tryd.prog w = .ok (.tuple #[v, .bool true]) w := by kernel_rfl
theorem request_Write.wd_i (v : Value) (w : World) : (method 264 65 v "depot/request.word").run Tryd.prog w = .ok (144, v) w := by kernel_rfl
theorem request_Write.wd_f (v : Value) (w : World) : (method 264 66 v "depot/request.word").run Tryd.prog w = .ok (145, v) w := by kernel_rfl
theorem request_Write.wd_w (v : Value) (w : World) : (method 264 68 v "depot/request.word").run Tryd.prog w = .ok (146, v) w := by kernel_rfl
theorem request_Write.word_i (v : Value) (w : World) : Calls Tryd.prog 144 #[v] w fun e w' => e = .returned (.string request_Write.insW) ∧ w' = w := by
  go_enter Tryd.func144, Tryd.ntmps144
  go_wp2
  go_ret
  exact ⟨rfl, rfl⟩
theorem request_Write.word_f (v : Value) (w : World) : Calls Tryd.prog 145 #[v] w fun e w' => e = .returned (.string request_Write.forbW) ∧ w' = w := by
  go_enter Tryd.func145, Tryd.ntmps145
  go_wp2
  go_ret
  exact ⟨rfl, rfl⟩
theorem request_Write.word_w (b : Bool) (v : Value) (w : World) : Calls Tryd.prog 146 #[.agg #[.bool b, v]] w fun e w' => e = .returned (.string (request_Write.wishW b)) ∧ Below w.heap.size w w' := by
  have hu := Tryd.underlying68
  go_enter Tryd.func146, Tryd.ntmps146
  cases b with
  | true =>
    go_wp2
    go_ret
    exact ⟨rfl, (Below.refl _ _).alloc (Nat.le_refl _) _⟩
  | false =>
    go_wp2
    go_ret
    exact ⟨rfl, (Below.refl _ _).alloc (Nat.le_refl _) _⟩
set_option maxHeartbeats 4000000 in
set_option maxRecDepth 100000 in
theorem request_Write.told_install (k : Nat) (A0 : Option Addr) (c0 : Nat) (l0 : List (List S46)) (t : ByteArray) (z : Int) (w : World) (hr0 : Kd.C (Kd.slice 46 k46) w A0 l0.length l0) (hc0 : l0.length ≤ c0) (hG : GG w) (h : relation_Write.f k l0 = some (t, z)) (hz : t.size ≤ 1099511627776) :
    Calls Tryd.prog 35 #[.iface 65 (.slice A0 l0.length c0)] w fun e w' => e = .returned (.string (request_Write.line request_Write.insW t)) ∧ Below w.heap.size w w' := by
  have HG := Aside0.mk hG
  have HR := Aside0.mk hr0
  have HC := Aside0.mk hc0
  have HH := Aside0.mk h
  have hw : request_Write.insW.size ≤ 7 := (by decide)
  have hs1 : (9223372036854775807 < request_Write.insW.size + 1) = False := eq_false (by omega)
  have hs2 : (9223372036854775807 < request_Write.insW.size + 1 + t.size) = False := eq_false (by omega)
  have hs3 : (9223372036854775807 < request_Write.insW.size + 1 + t.size + 1) = False := eq_false (by omega)
  clear hG hr0 hc0 h hw
  have hta := request_Write.ta_ii
  have hwd := request_Write.wd_i
  go_enter Tryd.func35, Tryd.ntmps35
  go_wp2_with (first | (go_at_call 55; refine (relation_Write.calls k A0 c0 l0 t z _ (by first | exact HR.out | exact Kd.C_alloc HR.out _) HC.out (by first | exact HG.out | exact GG.below HG.out ((Below.refl _ _).alloc (Nat.le_refl _) _)) HH.out).mono ?_; rintro e w1 ⟨rfl, hb⟩; have HB := Aside0.mk hb; clear hb) | (refine (request_Write.word_i _ _).mono ?_; rintro e w2 ⟨rfl, rfl⟩))
  go_ret
  exact ⟨rfl, HB.out⟩
set_option maxHeartbeats 4000000 in
set_option maxRecDepth 100000 in
theorem request_Write.told_forbid (k : Nat) (A0 : Option Addr) (c0 : Nat) (l0 : List S46) (t : ByteArray) (z : Int) (w : World) (hr0 : Kd.C k46 w A0 l0.length l0) (hc0 : l0.length ≤ c0) (hG : GG w) (h : relation_WriteList.f k l0 = some (t, z)) (hz : t.size ≤ 1099511627776) :
    Calls Tryd.prog 35 #[.iface 66 (.slice A0 l0.length c0)] w fun e w' => e = .returned (.string (request_Write.line request_Write.forbW t)) ∧ Below w.heap.size w w' := by
  have HG := Aside0.mk hG
  have HR := Aside0.mk hr0
  have HC := Aside0.mk hc0
  have HH := Aside0.mk h
  have hw : request_Write.forbW.size ≤ 7 := (by decide)
  have hs1 : (9223372036854775807 < request_Write.forbW.size + 1) = False := eq_false (by omega)
  have hs2 : (9223372036854775807 < request_Write.forbW.size + 1 + t.size) = False := eq_false (by omega)
  have hs3 : (9223372036854775807 < request_Write.forbW.size + 1 + t.size + 1) = False := eq_false (by omega)
  clear hG hr0 hc0 h hw
  have hta := request_Write.ta_fi
  have htb := request_Write.ta_ff
  have hwd := request_Write.wd_f
  go_enter Tryd.func35, Tryd.ntmps35
  go_wp2_with (first | (go_at_call 56; refine (relation_WriteList.calls k A0 c0 l0 t z _ (by first | exact HR.out | exact Kd.C_alloc HR.out _) HC.out (by first | exact HG.out | exact GG.below HG.out ((Below.refl _ _).alloc (Nat.le_refl _) _)) HH.out).mono ?_; rintro e w1 ⟨rfl, hb⟩; have HB := Aside0.mk hb; clear hb) | (refine (request_Write.word_f _ _).mono ?_; rintro e w2 ⟨rfl, rfl⟩))
  go_ret
  exact ⟨rfl, HB.out⟩
set_option maxHeartbeats 4000000 in
set_option maxRecDepth 100000 in
theorem request_Write.told_wish (k : Nat) (b : Bool) (A0 : Option Addr) (c0 : Nat) (l0 : List S46) (t : ByteArray) (z : Int) (w : World) (hr0 : Kd.C k46 w A0 l0.length l0) (hc0 : l0.length ≤ c0) (hG : GG w) (h : relation_WriteList.f k l0 = some (t, z)) (hz : t.size ≤ 1099511627776) :
    Calls Tryd.prog 35 #[.iface 68 (.agg #[.bool b, .slice A0 l0.length c0])] w fun e w' => e = .returned (.string (request_Write.line (request_Write.wishW b) t)) ∧ Below w.heap.size w w' := by
  have HG := Aside0.mk hG
  have HR := Aside0.mk hr0
  have HC := Aside0.mk hc0
  have HH := Aside0.mk h
  have hw : (request_Write.wishW b).size ≤ 7 := (by cases b <;> decide)
  have hs1 : (9223372036854775807 < (request_Write.wishW b).size + 1) = False := eq_false (by omega)
  have hs2 : (9223372036854775807 < (request_Write.wishW b).size + 1 + t.size) = False := eq_false (by omega)
  have hs3 : (9223372036854775807 < (request_Write.wishW b).size + 1 + t.size + 1) = False := eq_false (by omega)
  clear hG hr0 hc0 h hw
  have hta := request_Write.ta_wi
  have htb := request_Write.ta_wf
  have htc := request_Write.ta_ww
  have huw := Tryd.underlying68
  have hwd := request_Write.wd_w
  go_enter Tryd.func35, Tryd.ntmps35
  go_wp2_with (first | (go_at_call 56; refine (relation_WriteList.calls k A0 c0 l0 t z _ (by first | exact HR.out | exact Kd.C_alloc HR.out _) HC.out (by first | exact HG.out | exact GG.below HG.out ((Below.refl _ _).alloc (Nat.le_refl _) _)) HH.out).mono ?_; rintro e w1 ⟨rfl, hb⟩; have HB := Aside0.mk hb; clear hb) | (refine (request_Write.word_w b _ _).mono ?_; rintro e w2 ⟨rfl, hb2⟩))
  go_ret
  exact ⟨rfl, (((Below.refl _ _).alloc (Nat.le_refl _) _).trans (HB.out.mono (by simp))).trans (hb2.mono (by have h_ := HB.out.size; simp at h_; omega))⟩
/-- The lines of what is to be installed, behind what is there. -/
def request_Write.ins (k : Nat) : List (List S46) → List UInt8 → Option (List UInt8)
  | [], a => some a
  | x :: l, a => (relation_Write.f k [x]).bind fun t => if (a ++ (request_Write.line request_Write.insW t.1).data.toList).length ≤ 1099511627776 then request_Write.ins k l (a ++ (request_Write.line request_Write.insW t.1).data.toList) else none
def request_Write.forb (k : Nat) : List S46 → List UInt8 → Option (List UInt8)
  | [], a => some a
  | x :: l, a => (relation_WriteList.f k [x]).bind fun t => if (a ++ (request_Write.line request_Write.forbW t.1).data.toList).length ≤ 1099511627776 then request_Write.forb k l (a ++ (request_Write.line request_Write.forbW t.1).data.toList) else none
def request_Write.wis (k : Nat) : List S48 → List UInt8 → Option (List UInt8)
  | [], a => some a
  | x :: l, a => (relation_WriteList.f k [x.f1]).bind fun t => if (a ++ (request_Write.line (request_Write.wishW x.f0) t.1).data.toList).length ≤ 1099511627776 then request_Write.wis k l (a ++ (request_Write.line (request_Write.wishW x.f0) t.1).data.toList) else none
def request_Write.f (k : Nat) (l0_0 : List (List S46)) (l0_1 : List S46) (l0_2 : List S48) : Option (ByteArray × Int) :=
  (request_Formed.f k l0_0 l0_1 l0_2).bind fun t => if t = true then (request_Write.ins k l0_0 []).bind fun a => (request_Write.forb k l0_1 a).bind fun b => (request_Write.wis k l0_2 b).bind fun c => some (⟨c.toArray⟩, 0) else some (⟨#[]⟩, 1)
theorem request_Write.ins_mono (k : Nat) : ∀ l a, LeO (request_Write.ins k l a) (request_Write.ins (k + 1) l a)
  | [], a => LeO.refl _
  | x :: l, a => LeO.bind (relation_Write.mono _ _) (fun t => LeO.ite (request_Write.ins_mono k l _) (LeO.none _))
theorem request_Write.forb_mono (k : Nat) : ∀ l a, LeO (request_Write.forb k l a) (request_Write.forb (k + 1) l a)
  | [], a => LeO.refl _
  | x :: l, a => LeO.bind (relation_WriteList.mono _ _) (fun t => LeO.ite (request_Write.forb_mono k l _) (LeO.none _))
theorem request_Write.wis_mono (k : Nat) : ∀ l a, LeO (request_Write.wis k l a) (request_Write.wis (k + 1) l a)
  | [], a => LeO.refl _
  | x :: l, a => LeO.bind (relation_WriteList.mono _ _) (fun t => LeO.ite (request_Write.wis_mono k l _) (LeO.none _))
theorem request_Write.mono : ∀ a0 a1 a2 k, LeO (request_Write.f k a0 a1 a2) (request_Write.f (k + 1) a0 a1 a2) := by
  intro a0 a1 a2 k
  unfold request_Write.f
  refine LeO.bind (request_Formed.mono _ _ _ _) (fun t => ?_)
  refine LeO.ite ?_ (LeO.refl _)
  exact LeO.bind (request_Write.ins_mono k _ _) (fun a => LeO.bind (request_Write.forb_mono k _ _) (fun b => LeO.bind (request_Write.wis_mono k _ _) (fun c => LeO.refl _)))
/-- One element of a list of lists. -/
theorem request_Write.slice_at {w : World} {A : Option Addr} {n : Nat} {xs : List (List S46)} (h : Kd.C (Kd.slice 46 k46) w A n xs) (j : Nat) (o : List S46) (hj : xs[j]? = some o) :
    ∃ ad A0 c0, A = some ad ∧ w.cell? (ad.add j) = some (.slice A0 o.length c0) ∧ o.length ≤ c0 ∧ Kd.C k46 w A0 o.length o := by
  have hl : j < xs.length := (List.getElem?_eq_some_iff.1 hj).1
  obtain ⟨ad, rfl, hc⟩ := h.2.2 (by have := h.1; omega)
  obtain ⟨c, _, ⟨A0, c0, rfl, l0, g0⟩, hu⟩ := hc j o hj
  have := hu 0 _ rfl
  rw [show j * (Kd.slice 46 k46).sz + 0 = j from Nat.mul_one j] at this
  exact ⟨ad, A0, c0, rfl, this, l0, g0⟩
/-- A row of one list; a row of one relation. -/
theorem request_Write.one_slice {w : World} {b T : Nat} {fz : Nat × Nat} {A : Option Addr} {c : Nat} {o : List S46} (hb : w.heap[b]? = some (.cells #[.slice A o.length c] T fz)) (hc : o.length ≤ c) (hr : Kd.C k46 w A o.length o) :
    Kd.C (Kd.slice 46 k46) w (some ⟨b, 0, none⟩) [o].length [o] := by
  refine ⟨rfl, by simp, fun _ => ⟨_, rfl, ?_⟩⟩
  intro j p hj
  match j, hj with
  | 0, hj =>
    obtain rfl := Option.some.inj hj
    refine ⟨[.slice A o.length c], rfl, ⟨A, c, rfl, hc, hr⟩, ?_⟩
    intro i u hu
    match i, hu with
    | 0, hu =>
      obtain rfl := Option.some.inj hu
      exact (Lib.cell_of_heap hb 0).trans rfl
theorem request_Write.one_rel {w : World} {b T : Nat} {fz : Nat × Nat} {x : S46} (hb : w.heap[b]? = some (.cells #[.string x.f0, .int .i64 x.f1, .string x.f2] T fz)) :
    Kd.C k46 w (some ⟨b, 0, none⟩) [x].length [x] := by
  refine ⟨rfl, by simp, fun _ => ⟨_, rfl, ?_⟩⟩
  intro j p hj
  match j, hj with
  | 0, hj =>
    obtain rfl := Option.some.inj hj
    refine ⟨[.string x.f0, .int .i64 x.f1, .string x.f2], rfl, k46_mk w x, ?_⟩
    intro i u hu
    match i, hu with
    | 0, hu => obtain rfl := Option.some.inj hu; exact (Lib.cell_of_heap hb 0).trans rfl
    | 1, hu => obtain rfl := Option.some.inj hu; exact (Lib.cell_of_heap hb 1).trans rfl
    | 2, hu => obtain rfl := Option.some.inj hu; exact (Lib.cell_of_heap hb 2).trans rfl
theorem request_Write.alloc_at2 (w : World) (o1 o2 : Obj) : ((w.alloc o1).alloc o2).heap[w.heap.size + 1]? = some o2 := by
  have h := Go.Proofs.YtmocooihkobdjaaDoor.Builder.alloc_at (w.alloc o1) o2
  have e : (w.alloc o1).heap.size = w.heap.size + 1 := by simp
  rw [e] at h
  exact h
set_option maxHeartbeats 8000000 in
set_option maxRecDepth 100000 in
theorem request_Write.calls (k : Nat) (A0_0 : Option Addr) (c0_0 : Nat) (l0_0 : List (List S46)) (A0_1 : Option Addr) (c0_1 : Nat) (l0_1 : List S46) (A0_2 : Option Addr) (c0_2 : Nat) (l0_2 : List S48) (r1 : ByteArray) (r2 : Int) (w : World) (hr0_0 : Kd.C (Kd.slice 46 k46) w A0_0 l0_0.length l0_0) (hc0_0 : l0_0.length ≤ c0_0) (hr0_1 : Kd.C k46 w A0_1 l0_1.length l0_1) (hc0_1 : l0_1.length ≤ c0_1) (hr0_2 : Kd.C k48 w A0_2 l0_2.length l0_2) (hc0_2 : l0_2.length ≤ c0_2) (hG : GG w) (h : request_Write.f k l0_0 l0_1 l0_2 = some (r1, r2)) :
    Calls Tryd.prog 17 #[.agg #[.slice A0_0 l0_0.length c0_0, .slice A0_1 l0_1.length c0_1, .slice A0_2 l0_2.length c0_2]] w fun e w' => e = .returned (.tuple #[.string r1, .int .i64 r2]) ∧ Below w.heap.size w w' := by
  have hu26 := Tryd.underlying26
  have hu46 := Tryd.underlying46
  have hu48 := Tryd.underlying48
  have HR0 := Aside0.mk hr0_0
  have HC0 := Aside0.mk hc0_0
  have HR1 := Aside0.mk hr0_1
  have HC1 := Aside0.mk hc0_1
  have HR2 := Aside0.mk hr0_2
  have HC2 := Aside0.mk hc0_2
  have HG := Aside0.mk hG
  clear hr0_0 hc0_0 hr0_1 hc0_1 hr0_2 hc0_2 hG
  unfold request_Write.f at h
  obtain ⟨t, ht, h⟩ := Option.bind_eq_some_iff.mp h
  have HF := Aside0.mk ht
  clear ht
  have hlen0 := HR0.out.2.1
  have hlen1 := HR1.out.2.1
  have hlen2 := HR2.out.2.1
  cases t with
  | false =>
    have HZ := Aside0.mk (show (⟨#[]⟩ : ByteArray) = r1 ∧ (1 : Int) = r2 by simpa using h)
    clear h
    go_enter Tryd.func17, Tryd.ntmps17
    go_wp2_with (go_at_call 11; refine (request_Formed.calls k _ _ l0_0 _ _ l0_1 _ _ l0_2 false _ (Kd.C_alloc HR0.out _) HC0.out (Kd.C_alloc HR1.out _) HC1.out (Kd.C_alloc HR2.out _) HC2.out (GG.below HG.out ((Below.refl _ _).alloc (Nat.le_refl _) _)) HF.out).mono ?_; rintro e w1 ⟨rfl, hb⟩; have HB := Aside0.mk hb; clear hb)
    go_ret2
    obtain ⟨z1, z2⟩ := HZ.out
    subst z1
    subst z2
    exact ⟨rfl, ((Below.refl _ _).alloc (Nat.le_refl _) _).trans (HB.out.mono (by simp))⟩
  | true =>
    simp only [if_true] at h
    obtain ⟨a, ha, h⟩ := Option.bind_eq_some_iff.mp h
    obtain ⟨b, hb, h⟩ := Option.bind_eq_some_iff.mp h
    obtain ⟨c, hc, h⟩ := Option.bind_eq_some_iff.mp h
    have HZ := Aside0.mk (show (⟨c.toArray⟩ : ByteArray) = r1 ∧ (0 : Int) = r2 by simpa using h)
    have HA := Aside0.mk ha
    have HBB := Aside0.mk hb
    have HCC := Aside0.mk hc
    clear h ha hb hc
    go_enter Tryd.func17, Tryd.ntmps17
    go_wp2_with (go_at_call 11; refine (request_Formed.calls k _ _ l0_0 _ _ l0_1 _ _ l0_2 true _ (Kd.C_alloc HR0.out _) HC0.out (Kd.C_alloc HR1.out _) HC1.out (Kd.C_alloc HR2.out _) HC2.out (GG.below HG.out ((Below.refl _ _).alloc (Nat.le_refl _) _)) HF.out).mono ?_; rintro e w1 ⟨rfl, hb⟩; have HB := Aside0.mk hb; have hk0 := (hb.block w.heap.size (by simp)).trans (Go.Proofs.YtmocooihkobdjaaDoor.Builder.alloc_at _ _); clear hb; have hlt0 : w.heap.size < w1.heap.size := (by have h_ := HB.out.size; simp at h_; omega); have hy : ∀ o, (w1.alloc o).heap[w.heap.size]? = some (.cells #[.slice A0_0 l0_0.length c0_0, .slice A0_1 l0_1.length c0_1, .slice A0_2 l0_2.length c0_2] 26 (0, 0)) := fun o => (Lib.alloc_old w1 o _ hlt0).trans hk0; have hx0 : ∀ o, (w1.alloc o).cell? ⟨w.heap.size, 0, none⟩ = some (.slice A0_0 l0_0.length c0_0) := fun o => (Lib.cell_of_heap (hy o) 0).trans rfl)
    have HBW := Aside0.mk (((Below.refl w.heap.size w).alloc (Nat.le_refl _) _).trans (HB.out.mono (by simp)) : Below w.heap.size w w1)
    clear hx0
    have hsz1 : w.heap.size ≤ w1.heap.size := Nat.le_of_lt hlt0
    go_loopg [17] l0_0.length (fun gg s17 wr => ∃ (x : Int) (acc : List UInt8), s17 = .int .i64 x ∧ 0 ≤ x ∧ x ≤ l0_0.length ∧ l0_0.length - x.toNat ≤ gg ∧ Aside0 (Below w1.heap.size w1 wr) ∧ Aside0 (Lib.IsBuilderF 59 5 w1.heap.size w1.heap.size (Lib.byteCells acc) wr) ∧ Aside0 (request_Write.ins k (l0_0.drop x.toNat) acc = some a))
    case atStart => exact ⟨0, [], rfl, Int.le_refl _, by omega, by omega, ⟨(Below.refl _ w1).alloc (Nat.le_refl _) _⟩, ⟨Go.Proofs.YtmocooihkobdjaaDoor.Builder.keeps (Lib.IsBuilderF.of (Lib.fresh_isBuilder 59 5 w1)) (Below.refl _ _)⟩, HA⟩
    case round =>
      obtain ⟨x, acc, rfl, x0, x1, hg, HBr, HI, HN⟩ := hrel
      clear HA
      have hsz : w1.heap.size < wr.heap.size := by
        rcases HI.out with h | h
        · exact h.lt
        · exact h.lt
      have HWr := Aside0.mk (HBW.out.trans (HBr.out.mono hsz1) : Below w.heap.size w wr)
      by_cases hlt : x < (l0_0.length : Int)
      · have hltb : decide (x < (l0_0.length : Int)) = true := decide_eq_true hlt
        have hxn : x.toNat < l0_0.length := by omega
        obtain ⟨g, rfl⟩ : ∃ g, gk = g + 1 := ⟨gk - 1, by omega⟩
        obtain ⟨o, ho⟩ : ∃ o, l0_0[x.toNat]? = some o := ⟨_, List.getElem?_eq_getElem hxn⟩
        have hdr : l0_0.drop x.toNat = o :: l0_0.drop (x.toNat + 1) := by
          rw [List.drop_eq_getElem_cons hxn]
          congr 1
          exact Option.some.inj ((List.getElem?_eq_getElem hxn).symm.trans ho)
        have H := HN.out
        rw [hdr, request_Write.ins] at H
        obtain ⟨⟨t, z⟩, ht, H⟩ := Option.bind_eq_some_iff.mp H
        simp only at H
        split at H
        case isFalse => cases H
        case isTrue hb =>
        have hb' : acc.length + (request_Write.line request_Write.insW t).size ≤ 1099511627776 := by
          rw [List.length_append] at hb
          have : (request_Write.line request_Write.insW t).data.toList.length = (request_Write.line request_Write.insW t).size := by simp
          omega
        have hts : t.size ≤ 1099511627776 := by
          have : t.size ≤ (request_Write.line request_Write.insW t).size := by
            unfold request_Write.line
            rw [ByteArray.size_append, ByteArray.size_append]
            omega
          omega
        have HT := Aside0.mk ht
        have HH := Aside0.mk H
        have HBD := Aside0.mk hb'
        clear H ht hb hb' HN hdr
        obtain ⟨ad, Ai, ci, rfl, hcell, hci, hki⟩ := request_Write.slice_at HR0.out x.toNat o ho
        have hxc := (HWr.out.cell (World.block_lt_of_cell? w _ hcell)).trans hcell
        have HKI := Aside0.mk (Kd.C_below hki HWr.out)
        clear hcell hki ho
        have p0 := eq_true x0
        have p1 := eq_true hlt
        have Hx := Aside0.mk (show x.toNat + 1 = (x + 1).toNat ∧ 0 ≤ x + 1 ∧ x + 1 ≤ l0_0.length ∧ l0_0.length - (x + 1).toNat ≤ g by omega)
        have hzs : w.heap.size ≤ wr.heap.size := by omega
        go_wp2_with (first | (go_at_call 35; refine (request_Write.told_install k (some ⟨wr.heap.size, 0, none⟩) 1 [o] t z _ (request_Write.one_slice (Go.Proofs.YtmocooihkobdjaaDoor.Builder.alloc_at _ _) hci (Kd.C_alloc HKI.out _)) (Nat.le_refl 1) (GG.below HG.out (HWr.out.alloc hzs _)) HT.out hts).mono ?_; rintro e w3 ⟨rfl, hb3⟩; have B3 := Aside0.mk (((Below.refl wr.heap.size wr).alloc (Nat.le_refl _) _).trans (hb3.mono (by simp)) : Below wr.heap.size wr w3); clear hb3) | (go_at_call 34; refine (Go.Proofs.YtmocooihkobdjaaDoor.Builder.writeString w1.heap.size w1.heap.size _ _ _ (Go.Proofs.YtmocooihkobdjaaDoor.Builder.keeps HI.out B3.out) (by rw [Lib.byteCells_length]; have := HBD.out; omega) (by have h_ := B3.out.size; omega)).mono ?_; rintro e w4 ⟨rfl, h4, b4, _⟩; have H4 := Aside0.mk h4; have B4 := Aside0.mk (HBr.out.trans ((B3.out.mono (Nat.le_of_lt hsz)).trans b4)); clear h4 b4))
        go_roundg g
        case measure => exact Nat.lt_succ_self g
        case rel =>
          refine ⟨x + 1, _, rfl, Hx.out.2.1, Hx.out.2.2.1, Hx.out.2.2.2, B4, ⟨?_⟩, ⟨by rw [← Hx.out.1]; exact HH.out⟩⟩
          rw [Lib.byteCells_append, ← Lib.strCells_eq]
          exact Or.inr H4.out
      · have hltb : decide (x < (l0_0.length : Int)) = false := decide_eq_false hlt
        have p1 := eq_false hlt
        have hxe : x.toNat = l0_0.length := by omega
        have H := HN.out
        rw [hxe, List.drop_length, request_Write.ins] at H
        obtain rfl := Option.some.inj H
        clear H HN
        have hkr := (HBr.out.block w.heap.size hlt0).trans hk0
        have hx1 : wr.cell? ⟨w.heap.size, 1, none⟩ = some (.slice A0_1 l0_1.length c0_1) := (Lib.cell_of_heap hkr 1).trans rfl
        go_wp2
        clear HWr hkr hx1 x0 x1 hg hltb p1 hlt hxe
        go_loopg [30] l0_1.length (fun gg s17 wr => ∃ (x : Int) (acc : List UInt8), s17 = .int .i64 x ∧ 0 ≤ x ∧ x ≤ l0_1.length ∧ l0_1.length - x.toNat ≤ gg ∧ Aside0 (Below w1.heap.size w1 wr) ∧ Aside0 (Lib.IsBuilderF 59 5 w1.heap.size w1.heap.size (Lib.byteCells acc) wr) ∧ Aside0 (request_Write.forb k (l0_1.drop x.toNat) acc = some b))
        case atStart => exact ⟨0, _, rfl, Int.le_refl _, by omega, by omega, HBr, HI, HBB⟩
        case round =>
          clear HBB HBr HI hsz
          obtain ⟨x, acc, rfl, x0, x1, hg, HBr, HI, HN⟩ := hrel
          have hsz : w1.heap.size < wr.heap.size := by
            rcases HI.out with h | h
            · exact h.lt
            · exact h.lt
          have HWr := Aside0.mk (HBW.out.trans (HBr.out.mono hsz1) : Below w.heap.size w wr)
          by_cases hlt : x < (l0_1.length : Int)
          · have hltb : decide (x < (l0_1.length : Int)) = true := decide_eq_true hlt
            have hxn : x.toNat < l0_1.length := by omega
            obtain ⟨g, rfl⟩ : ∃ g, gk = g + 1 := ⟨gk - 1, by omega⟩
            have hdr : l0_1.drop x.toNat = rd_T46 l0_1 x :: l0_1.drop (x.toNat + 1) := by
              rw [List.drop_eq_getElem_cons hxn]
              congr 1
              unfold rd_T46
              rw [List.getD_eq_getElem?_getD, List.getElem?_eq_getElem hxn, Option.getD_some]
            have H := HN.out
            rw [hdr, request_Write.forb] at H
            obtain ⟨⟨t, z⟩, ht, H⟩ := Option.bind_eq_some_iff.mp H
            simp only at H
            split at H
            case isFalse => cases H
            case isTrue hb =>
            have hb' : acc.length + (request_Write.line request_Write.forbW t).size ≤ 1099511627776 := by
              rw [List.length_append] at hb
              have : (request_Write.line request_Write.forbW t).data.toList.length = (request_Write.line request_Write.forbW t).size := by simp
              omega
            have hts : t.size ≤ 1099511627776 := by
              have : t.size ≤ (request_Write.line request_Write.forbW t).size := by
                unfold request_Write.line
                rw [ByteArray.size_append, ByteArray.size_append]
                omega
              omega
            have HT := Aside0.mk ht
            have HH := Aside0.mk H
            have HBD := Aside0.mk hb'
            clear H ht hb hb' HN hdr
            obtain ⟨ad, ead, hx0, hx1, hx2⟩ := at_T46 HR1.out x x0 hlt
            cases ead
            replace hx0 := (HWr.out.cell (World.block_lt_of_cell? w _ hx0)).trans hx0
            replace hx1 := (HWr.out.cell (World.block_lt_of_cell? w _ hx1)).trans hx1
            replace hx2 := (HWr.out.cell (World.block_lt_of_cell? w _ hx2)).trans hx2
            have p0 := eq_true x0
            have p1 := eq_true hlt
            have Hx := Aside0.mk (show x.toNat + 1 = (x + 1).toNat ∧ 0 ≤ x + 1 ∧ x + 1 ≤ l0_1.length ∧ l0_1.length - (x + 1).toNat ≤ g by omega)
            have hzs : w.heap.size ≤ wr.heap.size := by omega
            go_wp2_with (first | (go_at_call 35; refine (request_Write.told_forbid k (some ⟨wr.heap.size + 1, 0, none⟩) 1 [rd_T46 l0_1 x] t z _ (request_Write.one_rel (request_Write.alloc_at2 wr _ _)) (Nat.le_refl 1) (GG.below HG.out ((HWr.out.alloc hzs _).alloc (by rw [World.size_alloc]; omega) _)) HT.out hts).mono ?_; rintro e w3 ⟨rfl, hb3⟩; have B3 := Aside0.mk ((((Below.refl wr.heap.size wr).alloc (Nat.le_refl _) _).alloc (by rw [World.size_alloc]; omega) _).trans (hb3.mono (by rw [World.size_alloc, World.size_alloc]; omega)) : Below wr.heap.size wr w3); clear hb3) | (go_at_call 34; refine (Go.Proofs.YtmocooihkobdjaaDoor.Builder.writeString w1.heap.size w1.heap.size _ _ _ (Go.Proofs.YtmocooihkobdjaaDoor.Builder.keeps HI.out B3.out) (by rw [Lib.byteCells_length]; have := HBD.out; omega) (by have h_ := B3.out.size; omega)).mono ?_; rintro e w4 ⟨rfl, h4, b4, _⟩; have H4 := Aside0.mk h4; have B4 := Aside0.mk (HBr.out.trans ((B3.out.mono (Nat.le_of_lt hsz)).trans b4)); clear h4 b4))
            go_roundg g
            case measure => exact Nat.lt_succ_self g
            case rel =>
              refine ⟨x + 1, _, rfl, Hx.out.2.1, Hx.out.2.2.1, Hx.out.2.2.2, B4, ⟨?_⟩, ⟨by rw [← Hx.out.1]; exact HH.out⟩⟩
              rw [Lib.byteCells_append, ← Lib.strCells_eq]
              exact Or.inr H4.out
          · have hltb : decide (x < (l0_1.length : Int)) = false := decide_eq_false hlt
            have p1 := eq_false hlt
            have hxe : x.toNat = l0_1.length := by omega
            have H := HN.out
            rw [hxe, List.drop_length, request_Write.forb] at H
            obtain rfl := Option.some.inj H
            clear H HN
            have hkr := (HBr.out.block w.heap.size hlt0).trans hk0
            have hx1 : wr.cell? ⟨w.heap.size, 2, none⟩ = some (.slice A0_2 l0_2.length c0_2) := (Lib.cell_of_heap hkr 2).trans rfl
            go_wp2
            clear HWr hkr hx1 x0 x1 hg hltb p1 hlt hxe
            go_loopg [43] l0_2.length (fun gg s17 wr => ∃ (x : Int) (acc : List UInt8), s17 = .int .i64 x ∧ 0 ≤ x ∧ x ≤ l0_2.length ∧ l0_2.length - x.toNat ≤ gg ∧ Aside0 (Below w1.heap.size w1 wr) ∧ Aside0 (Lib.IsBuilderF 59 5 w1.heap.size w1.heap.size (Lib.byteCells acc) wr) ∧ Aside0 (request_Write.wis k (l0_2.drop x.toNat) acc = some c))
            case atStart => exact ⟨0, _, rfl, Int.le_refl _, by omega, by omega, HBr, HI, HCC⟩
            case round =>
              clear HCC HBr HI hsz
              obtain ⟨x, acc, rfl, x0, x1, hg, HBr, HI, HN⟩ := hrel
              have hsz : w1.heap.size < wr.heap.size := by
                rcases HI.out with h | h
                · exact h.lt
                · exact h.lt
              have HWr := Aside0.mk (HBW.out.trans (HBr.out.mono hsz1) : Below w.heap.size w wr)
              by_cases hlt : x < (l0_2.length : Int)
              · have hltb : decide (x < (l0_2.length : Int)) = true := decide_eq_true hlt
                have hxn : x.toNat < l0_2.length := by omega
                obtain ⟨g, rfl⟩ : ∃ g, gk = g + 1 := ⟨gk - 1, by omega⟩
                have hdr : l0_2.drop x.toNat = rd_T48 l0_2 x :: l0_2.drop (x.toNat + 1) := by
                  rw [List.drop_eq_getElem_cons hxn]
                  congr 1
                  unfold rd_T48
                  rw [List.getD_eq_getElem?_getD, List.getElem?_eq_getElem hxn, Option.getD_some]
                have H := HN.out
                rw [hdr, request_Write.wis] at H
                obtain ⟨⟨t, z⟩, ht, H⟩ := Option.bind_eq_some_iff.mp H
                simp only at H
                split at H
                case isFalse => cases H
                case isTrue hb =>
                have hb' : acc.length + (request_Write.line (request_Write.wishW (rd_T48 l0_2 x).f0) t).size ≤ 1099511627776 := by
                  rw [List.length_append] at hb
                  have : (request_Write.line (request_Write.wishW (rd_T48 l0_2 x).f0) t).data.toList.length = (request_Write.line (request_Write.wishW (rd_T48 l0_2 x).f0) t).size := by simp
                  omega
                have hts : t.size ≤ 1099511627776 := by
                  have : t.size ≤ (request_Write.line (request_Write.wishW (rd_T48 l0_2 x).f0) t).size := by
                    unfold request_Write.line
                    rw [ByteArray.size_append, ByteArray.size_append]
                    omega
                  omega
                have HT := Aside0.mk ht
                have HH := Aside0.mk H
                have HBD := Aside0.mk hb'
                clear H ht hb hb' HN hdr
                obtain ⟨ad, ead, hx0, hx1, hx2, hx3⟩ := at_T48 HR2.out x x0 hlt
                cases ead
                replace hx0 := (HWr.out.cell (World.block_lt_of_cell? w _ hx0)).trans hx0
                replace hx1 := (HWr.out.cell (World.block_lt_of_cell? w _ hx1)).trans hx1
                replace hx2 := (HWr.out.cell (World.block_lt_of_cell? w _ hx2)).trans hx2
                replace hx3 := (HWr.out.cell (World.block_lt_of_cell? w _ hx3)).trans hx3
                have p0 := eq_true x0
                have p1 := eq_true hlt
                have Hx := Aside0.mk (show x.toNat + 1 = (x + 1).toNat ∧ 0 ≤ x + 1 ∧ x + 1 ≤ l0_2.length ∧ l0_2.length - (x + 1).toNat ≤ g by omega)
                have hzs : w.heap.size ≤ wr.heap.size := by omega
                go_wp2_with (first | (go_at_call 35; refine (request_Write.told_wish k (rd_T48 l0_2 x).f0 (some ⟨wr.heap.size + 1, 0, none⟩) 1 [(rd_T48 l0_2 x).f1] t z _ (request_Write.one_rel (request_Write.alloc_at2 wr _ _)) (Nat.le_refl 1) (GG.below HG.out ((HWr.out.alloc hzs _).alloc (by rw [World.size_alloc]; omega) _)) HT.out hts).mono ?_; rintro e w3 ⟨rfl, hb3⟩; have B3 := Aside0.mk ((((Below.refl wr.heap.size wr).alloc (Nat.le_refl _) _).alloc (by rw [World.size_alloc]; omega) _).trans (hb3.mono (by rw [World.size_alloc, World.size_alloc]; omega)) : Below wr.heap.size wr w3); clear hb3) | (go_at_call 34; refine (Go.Proofs.YtmocooihkobdjaaDoor.Builder.writeString w1.heap.size w1.heap.size _ _ _ (Go.Proofs.YtmocooihkobdjaaDoor.Builder.keeps HI.out B3.out) (by rw [Lib.byteCells_length]; have := HBD.out; omega) (by have h_ := B3.out.size; omega)).mono ?_; rintro e w4 ⟨rfl, h4, b4, _⟩; have H4 := Aside0.mk h4; have B4 := Aside0.mk (HBr.out.trans ((B3.out.mono (Nat.le_of_lt hsz)).trans b4)); clear h4 b4))
                go_roundg g
                case measure => exact Nat.lt_succ_self g
                case rel =>
                  refine ⟨x + 1, _, rfl, Hx.out.2.1, Hx.out.2.2.1, Hx.out.2.2.2, B4, ⟨?_⟩, ⟨by rw [← Hx.out.1]; exact HH.out⟩⟩
                  rw [Lib.byteCells_append, ← Lib.strCells_eq]
                  exact Or.inr H4.out
              · have hltb : decide (x < (l0_2.length : Int)) = false := decide_eq_false hlt
                have p1 := eq_false hlt
                have hxe : x.toNat = l0_2.length := by omega
                have H := HN.out
                rw [hxe, List.drop_length, request_Write.wis] at H
                obtain rfl := Option.some.inj H
                clear H HN
                have hw : w1.heap.size ≤ wr.heap.size := Nat.le_of_lt hsz
                go_wp2_with (go_at_call 36; refine (Go.Proofs.YtmocooihkobdjaaDoor.Builder.string w1.heap.size w1.heap.size _ _ HI.out hw).mono ?_; rintro e W2 ⟨rfl, _, b2, _⟩; have B2 := Aside0.mk b2; clear b2)
                go_ret2
                obtain ⟨z1, z2⟩ := HZ.out
                subst z1
                subst z2
                exact ⟨rfl, HBW.out.trans ((HBr.out.trans B2.out).mono hsz1)⟩


end Go.Proofs.YtmocooihkobdjaaDoor.B
