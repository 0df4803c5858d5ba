/-
  RelationGaps (P22.2, P22.5) as plain Lean, for every text and every kind.
-/
import Derived.Test.YtphabealejpfnaaDoorVyFnWrite
import Derived.Test.YtphabealejpfnaaDoorVyFnAlike
import Derived.Test.YtphabealejpfnaaDoorVyFnCopies
import Derived.Test.YtphabealejpfnaaDoorVyFnRead
import Derived.KernelRfl
set_option linter.unusedVariables false
set_option linter.unusedSimpArgs false
namespace Go.Proofs.YtphabealejpfnaaDoor.Model
open Go.RowKit Go.Proofs.YtphabealejpfnaaDoor.V Go.Proofs.YtphabealejpfnaaDoorW.PrintWords Go.Proofs.YtphabealejpfnaaDoorW.PrintLast Go.Proofs.YtphabealejpfnaaDoor.Ver

theorem signed_byte (c : UInt8) : depotlaw22_signed.f (c.toNat : Int) = some (sgnB c) := byte_all (P := fun c => depotlaw22_signed.f (c.toNat : Int) = some (sgnB c)) (by decide +kernel) c
theorem ext_one {s : ByteArray} {i : Nat} (h : i < s.size) : s.extract (i : Int).toNat ((i + 1 : Nat) : Int).toNat = ofL [s[i]'h] := by
  rw [ext_at, at_lt h, show i + 1 - i = 1 by omega]; rfl
theorem ofL_app (a b : B) : ofL a ++ ofL b = ofL (a ++ b) := by rw [app_ofL, toL_ofL, toL_ofL]
theorem gapped_ev (s : ByteArray) (hs : s.size ≤ 4000) (g : B) (hg : g.length ≤ 4) : Ev (fun k => depotlaw22_gapped.f k s (ofL g)) (ofL (g ++ gapM g s.data.toList)) := by
  have key : ∀ (d i : Nat), i + d = s.size → ∀ o : B, o.length ≤ 4 + 9 * i → Ev (fun k => depotlaw22_gapped.l0 k s (ofL g) (ofL o) (i : Int)) (ofL (o ++ gapM g (at_ s i))) := by
    intro d
    induction d with
    | zero =>
      intro i hi o ho
      obtain rfl : i = s.size := by omega
      rw [at_end, gapM]
      refine Ev.step (f := fun _ => some (ofL (o ++ g))) (fun k => ?_) (Ev.now _)
      simp only [depotlaw22_gapped.l0]
      rw [if_neg (by omega), if_pos (by rw [ofL_size, ofL_size]; omega), ofL_app]
    | succ d ih =>
      intro i hi o ho
      have hl : i < s.size := by omega
      have ew : wrap64 ((i : Int) + 1) = ((i + 1 : Nat) : Int) := by rw [wrap_id (by omega) (by omega)]; omega
      rw [at_lt hl, gapM]
      by_cases hc : sgnB (s[i]'hl) = true
      · have hn := ih (i + 1) (by omega) (o ++ ((g ++ [s[i]'hl]) ++ g)) (by simp only [List.length_append, List.length_cons, List.length_nil]; omega)
        rw [if_pos hc, ← List.append_assoc]
        refine Ev.step (f := _) (fun k => ?_) hn
        simp only [depotlaw22_gapped.l0, bt_eq s i hl, signed_byte, Option.bind_some, hc, if_true, ew, ext_one hl, ofL_app, ofL_size, List.length_append, List.length_cons, List.length_nil]
        rw [if_pos (by omega), if_pos (by omega), if_pos (by omega), if_pos (by omega), if_pos (by omega), if_pos (by omega), if_pos (by omega)]
      · have hc' : sgnB (s[i]'hl) = false := by simpa using hc
        have hn := ih (i + 1) (by omega) (o ++ [s[i]'hl]) (by simp only [List.length_append, List.length_cons, List.length_nil]; omega)
        rw [if_neg hc, ← List.append_assoc]
        refine Ev.step (f := _) (fun k => ?_) hn
        simp only [depotlaw22_gapped.l0, bt_eq s i hl, signed_byte, Option.bind_some, hc', Bool.false_eq_true, if_false, ew, ext_one hl, ofL_app, ofL_size, List.length_append, List.length_cons, List.length_nil]
        rw [if_pos (by omega), if_pos (by omega), if_pos (by omega), if_pos (by omega), if_pos (by omega)]
  unfold depotlaw22_gapped.f
  exact key s.size 0 (by omega) g (by omega)
theorem gap_int : ∀ c : UInt8, gapB c = decide ((c.toNat : Int) = 32 ∨ (c.toNat : Int) = 9 ∨ (c.toNat : Int) = 10) := byte_all (by decide +kernel)
theorem bare_ev (s : ByteArray) (hs : s.size ≤ 4000) : Ev (fun k => depotlaw22_bare.f k s) (ofL (N s.data.toList)) := by
  have key : ∀ (d i : Nat), i + d = s.size → ∀ (o p : B) (b : Bool), o.length + p.length ≤ i → Ev (fun k => depotlaw22_bare.l0 k s (ofL o) (ofL p) b (i : Int)) (ofL (o ++ bareM b p (at_ s i))) := by
    intro d
    induction d with
    | zero =>
      intro i hi o p b ho
      obtain rfl : i = s.size := by omega
      rw [at_end, bareM, List.append_nil]
      refine Ev.step (f := fun _ => some (ofL o)) (fun k => ?_) (Ev.now _)
      simp only [depotlaw22_bare.l0]
      rw [if_neg (by omega)]
    | succ d ih =>
      intro i hi o p b ho
      have hl : i < s.size := by omega
      have ew : wrap64 ((i : Int) + 1) = ((i + 1 : Nat) : Int) := by rw [wrap_id (by omega) (by omega)]; omega
      have h1 : ∀ {v}, Ev (fun k => depotlaw22_bare.j1 k s (ofL o) (ofL p) b (i : Int) ((s[i]'hl).toNat : Int) (gapB (s[i]'hl))) v → Ev (fun k => depotlaw22_bare.l0 k s (ofL o) (ofL p) b (i : Int)) v := by
        intro v h
        refine Ev.step (f := _) (fun k => ?_) h
        have hg := gap_int (s[i]'hl)
        simp only [depotlaw22_bare.l0, bt_eq s i hl]
        rw [if_pos (by omega), if_pos (by omega)]
        by_cases q1 : ((s[i]'hl).toNat : Int) = 32
        · rw [if_pos q1, hg, decide_eq_true (.inl q1)]
        · rw [if_neg q1]
          by_cases q2 : ((s[i]'hl).toNat : Int) = 9
          · rw [if_pos q2, hg, decide_eq_true (.inr (.inl q2))]
          · rw [if_neg q2, hg]
            by_cases q3 : ((s[i]'hl).toNat : Int) = 10
            · rw [decide_eq_true (.inr (.inr q3)), beq_iff_eq.2 q3]
            · rw [decide_eq_false (by rintro (q | q | q); exact q1 q; exact q2 q; exact q3 q), beq_eq_false_iff_ne.2 q3]
      refine h1 ?_
      rw [at_lt hl, bareM]
      by_cases hc : gapB (s[i]'hl) = true
      · have hn := ih (i + 1) (by omega) o (p ++ [s[i]'hl]) b (by simp only [List.length_append, List.length_cons, List.length_nil]; omega)
        rw [if_pos hc]
        refine Ev.step (f := _) (fun k => ?_) hn
        simp only [depotlaw22_bare.j1, hc, if_true, ew, ext_one hl, ofL_app, ofL_size, List.length_append, List.length_cons, List.length_nil]
        rw [if_pos (by omega), if_pos (by omega), if_pos (by omega), if_pos (by omega)]
      · have hc' : gapB (s[i]'hl) = false := by simpa using hc
        rw [if_neg hc]
        have hb : (if (b || sgnB (s[i]'hl)) = true then s[i]'hl :: bareM (sgnB (s[i]'hl)) [] (at_ s (i + 1)) else p ++ s[i]'hl :: bareM (sgnB (s[i]'hl)) [] (at_ s (i + 1))) = (if (b || sgnB (s[i]'hl)) = true then [] else p) ++ ([s[i]'hl] ++ bareM (sgnB (s[i]'hl)) [] (at_ s (i + 1))) := by
          split <;> rfl
        rw [hb, ← List.append_assoc, ← List.append_assoc]
        have e0 : (⟨#[]⟩ : ByteArray) = ofL [] := rfl
        by_cases hq : (b || sgnB (s[i]'hl)) = true
        · rw [if_pos hq, List.append_nil]
          have hn := ih (i + 1) (by omega) (o ++ [s[i]'hl]) [] (sgnB (s[i]'hl)) (by simp only [List.length_append, List.length_cons, List.length_nil]; omega)
          refine Ev.step (f := _) (fun k => ?_) hn
          simp only [depotlaw22_bare.j1, hc', Bool.false_eq_true, if_false, ew, ext_one hl, ofL_app, ofL_size, List.length_append, List.length_cons, List.length_nil, signed_byte, Option.bind_some, e0]
          cases b with
          | true =>
            simp only [if_true]
            rw [if_pos (by omega), if_pos (by omega), if_pos (by omega), if_pos (by omega)]
          | false =>
            have hs1 : sgnB (s[i]'hl) = true := by simpa using hq
            simp only [Bool.false_eq_true, if_false, hs1, if_true]
            rw [if_pos (by omega), if_pos (by omega), if_pos (by omega), if_pos (by omega)]
        · have hb0 : b = false := by
            cases b with
            | false => rfl
            | true => exact absurd rfl hq
          have hs0 : sgnB (s[i]'hl) = false := by
            cases hs : sgnB (s[i]'hl) with
            | false => rfl
            | true => rw [hs] at hq; exact absurd (by simp) hq
          rw [if_neg hq]
          have hn := ih (i + 1) (by omega) ((o ++ p) ++ [s[i]'hl]) [] (sgnB (s[i]'hl)) (by simp only [List.length_append, List.length_cons, List.length_nil]; omega)
          refine Ev.step (f := _) (fun k => ?_) hn
          simp only [depotlaw22_bare.j1, hc', hb0, Bool.false_eq_true, if_false, ew, ext_one hl, ofL_app, ofL_size, List.length_append, List.length_cons, List.length_nil, signed_byte, Option.bind_some, e0, hs0]
          rw [if_pos (by omega), if_pos (by omega), if_pos (by omega), if_pos (by omega), if_pos (by omega)]
  unfold depotlaw22_bare.f N
  exact key s.size 0 (by omega) [] [] true (by simp)
theorem one_read : Ev (fun k => relation_Read.f k ⟨#[97, 97]⟩) ([[⟨⟨#[97, 97]⟩, 0, ⟨#[]⟩⟩]], 0, 0) :=
  Ev.of (fun k => relation_Read.mono _ k) (k := 60) (by kernel_rfl)
theorem weigh_eq (L : List (List S23)) : (L.map rowW).sum = wt L.flatten + L.flatten.length + L.length := by
  induction L with
  | nil => rfl
  | cons a L ih =>
    rw [List.map_cons, List.sum_cons, ih, List.flatten_cons, wt_append, List.length_append, List.length_cons]
    have : rowW a = wt a + a.length + 1 := by
      unfold rowW wt
      congr 1
      induction a with
      | nil => rfl
      | cons x a iha =>
        simp only [List.map_cons, List.sum_cons, List.length_cons, iha]
        unfold relW relSize
        omega
    omega
theorem okL_of {L : List (List S23)} (h1 : ∀ m ∈ L, m ≠ []) (h2 : ∀ x ∈ L.flatten, Good x) : okL L = true := by
  unfold okL
  rw [List.all_eq_true]
  intro m hm
  rw [Bool.and_eq_true]
  refine ⟨by simpa using h1 m hm, ?_⟩
  rw [List.all_eq_true]
  intro x hx
  exact (h2 x (List.mem_flatten.2 ⟨m, hm, hx⟩)).1
theorem pick_four (z : Int) : ∃ r : Nat, r < 4 ∧ depotkit_Pick.f z 4 = some (r : Int) := by
  unfold depotkit_Pick.f
  rw [if_neg (by omega)]
  have h1 := Int.tmod_lt_of_pos z (show (0 : Int) < 4 by omega)
  have h2 : -4 < Int.tmod z 4 := by
    have := Int.lt_tmod_of_pos z (show (0 : Int) < 4 by omega)
    omega
  by_cases h : Int.tmod z 4 < 0
  · rw [if_pos h, wrap_id (by omega) (by omega)]
    exact ⟨(Int.tmod z 4 + 4).toNat, by omega, by congr 1; omega⟩
  · rw [if_neg h]
    exact ⟨(Int.tmod z 4).toNat, by omega, by congr 1; omega⟩
theorem gaps_law (s : ByteArray) (z : Int) (hs : s.size ≤ 140737488351232) (hz : (Lit.int .i64 z).wf = true) : Ev (fun k => depotlaw22_RelationGaps.f k s z) true := by
  unfold depotlaw22_RelationGaps.f
  by_cases hb : (s.size : Int) > 4000
  · simp only [if_pos hb]
    exact Ev.now _
  simp only [if_neg hb, Option.bind_some]
  have hl : (([⟨#[32]⟩, ⟨#[9]⟩, ⟨#[10]⟩, ⟨#[32, 10, 9, 32]⟩] : List ByteArray).length : Int) = 4 := rfl
  obtain ⟨r, hr, hp⟩ := pick_four z
  simp only [hl, hp, Option.bind_some, if_pos (show (0 : Int) ≤ r by omega), if_pos (show (r : Int) < 4 by omega)]
  obtain ⟨g, hg1, hg2, hg3⟩ : ∃ g : B, rdOf ByteArray.empty ([⟨#[32]⟩, ⟨#[9]⟩, ⟨#[10]⟩, ⟨#[32, 10, 9, 32]⟩] : List ByteArray) (r : Int) = ofL g ∧ g.length ≤ 4 ∧ ∀ x ∈ g, gapB x = true := by
    have : r = 0 ∨ r = 1 ∨ r = 2 ∨ r = 3 := by omega
    rcases this with rfl | rfl | rfl | rfl
    · exact ⟨[32], rfl, by decide, by decide⟩
    · exact ⟨[9], rfl, by decide, by decide⟩
    · exact ⟨[10], rfl, by decide, by decide⟩
    · exact ⟨[32, 10, 9, 32], rfl, by decide, by decide⟩
  rw [hg1]
  have hsl : s.data.toList.length = s.size := by simp
  have hR := Read_ev s (by omega)
  refine Ev.bind hR ?_
  by_cases h0 : (readM true s.data.toList).2.1 = 0
  · obtain ⟨k1, k2, k3, k4⟩ := readM_ok true _ h0
    have hokL := okL_of k2 k3
    have hwe := weigh_eq (readM true s.data.toList).1
    have hwl := wt_len (fun x hx => (k3 x hx).2)
    have hfl := flat_len k2
    have hnone := readM_none true _ h0
    have hG := gapped_ev s (by omega) g hg2
    have hB := bare_ev s (by omega)
    have hgl := gapM_len g s.data.toList
    have hbl := bareM_len s.data.toList true []
    have hmul : s.data.toList.length * (2 * g.length + 1) ≤ 4000 * 9 := Nat.mul_le_mul (by omega) (by omega)
    have hRg := Read_ev (ofL (g ++ gapM g s.data.toList)) (by rw [ofL_size, List.length_append]; omega)
    have hRb := Read_ev (ofL (N s.data.toList)) (by rw [ofL_size]; unfold N; simp only [List.length_nil] at hbl; omega)
    obtain ⟨g1, g2⟩ := read_gapM g hg3 true s.data.toList
    obtain ⟨b1, b2⟩ := read_N true s.data.toList
    rw [toL_ofL] at hRg hRb
    have hNn := N_nil s.data.toList
    generalize hLe : (readM true s.data.toList).1 = L at *
    have pR : (placeM s (readM true s.data.toList)) = (L, 0, 0) := by simp only [placeM, h0, hLe, if_true]
    have pG : (placeM (ofL (g ++ gapM g s.data.toList)) (readM true (g ++ gapM g s.data.toList))) = (L, 0, 0) := by simp only [placeM, g1, g2, h0, if_true]
    have pB : (placeM (ofL (N s.data.toList)) (readM true (N s.data.toList))) = (L, 0, 0) := by simp only [placeM, b1, b2, h0, if_true]
    rw [pG] at hRg
    rw [pB] at hRb
    have hA := alike_self L (by omega) (fun m hm => by have := row_len hm; omega)
    simp only [pR, if_true]
    refine Ev.bind hG ?_
    refine Ev.bind hRg ?_
    refine Ev.bind hB ?_
    refine Ev.bind hRb ?_
    simp only [if_true]
    refine Ev.bind hA ?_
    simp only [if_true]
    refine Ev.bind hA ?_
    have htl := textsM_len L
    obtain ⟨t1, t2⟩ := read_texts true L hokL (.inr rfl)
    have hRt := Read_ev (ofL (textsM L)) (by rw [ofL_size]; omega)
    rw [toL_ofL] at hRt
    have pT : (placeM (ofL (textsM L)) (readM true (textsM L))) = (L, 0, 0) := by simp only [placeM, t1, t2, if_true]
    rw [pT] at hRt
    have hW := write_ev L (by omega)
    rw [if_pos hokL] at hW
    refine Ev.step (f := fun k => (depotlaw22_copies.f k L).bind fun t387 => ((relation_Write.f k t387).bind fun bt390 => (if bt390.2 = 0 then ((relation_Read.f k bt390.1).bind fun bt392 => (if bt392.2.1 = 0 then ((depotlaw22_alike.f k L bt392.1).bind fun t397 => (if t397 = true then ((depotlaw22_bare.f k s).bind fun t398 => (some ((decide ((L.length : Int) > 0)) == (t398.toList != ([] : List UInt8))))) else (some false))) else (some false))) else (some false)))) (fun k => ?_) ?_
    · simp only [depotlaw22_RelationGaps.j0, Bool.not_true, Bool.false_eq_true, if_false]
    refine Ev.bind (copies_law L (by omega) (fun m hm => by have := row_len hm; omega)) ?_
    refine Ev.bind hW ?_
    simp only [if_true]
    refine Ev.bind hRt ?_
    simp only [if_true]
    refine Ev.bind hA ?_
    simp only [if_true]
    refine Ev.bind hB ?_
    have hfin : (decide ((L.length : Int) > 0) == ((ofL (N s.data.toList)).toList != ([] : List UInt8))) = true := by
      rw [ofL_list]
      by_cases hL0 : L = []
      · have : N s.data.toList = [] := hNn.2 (hnone.1 hL0)
        rw [this, hL0]; rfl
      · have hne : ¬ N s.data.toList = [] := fun q => hL0 (hnone.2 (hNn.1 q))
        have hpos : 0 < L.length := List.length_pos_iff.2 hL0
        rw [decide_eq_true (by omega), bne_iff_ne.2 hne]; rfl
    rw [hfin]
    exact Ev.now _
  · have he := readM_err true _ h0
    have hsuf := (at_suf (readM_suf true s.data.toList)).2
    have pl : placeM s (readM true s.data.toList) = ([], (readM true s.data.toList).2.1, ((s.size - (readM true s.data.toList).2.2.length : Nat) : Int)) := by simp only [placeM, he, if_neg h0]
    rw [pl]
    simp only [if_neg h0]
    refine Ev.bind one_read ?_
    simp only [List.length_nil]
    rw [if_pos (by rfl), if_pos (by omega), if_pos (by omega), if_pos trivial]
    exact Ev.now _
end Go.Proofs.YtphabealejpfnaaDoor.Model
