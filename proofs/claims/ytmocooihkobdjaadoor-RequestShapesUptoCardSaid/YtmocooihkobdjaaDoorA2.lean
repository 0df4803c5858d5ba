-- printed by wip/myprint.py of this session over the kit's print.py; Lean checks it
import Derived.Test.YtmocooihkobdjaaDoorA0
import Derived.Test.YtmocooihkobdjaaDoorA1
namespace Go.Proofs.YtmocooihkobdjaaDoor.A
open Go.RowKit Go.Proofs.YtmocooihkobdjaaDoorW.PrintWords Go.Proofs.YtmocooihkobdjaaDoorW.PrintLast Go.Proofs.YtmocooihkobdjaaDoorW.PrintMore
attribute [local go_sem] max2_int min2_int max_two min_two max_three min_three max_four min_four   -- for this text's walks alone
set_option linter.unusedVariables false
set_option linter.unusedSimpArgs false

/-! ### version_made: function 94 -/
def dgt (c : Int) : Bool := decide (48 ≤ c ∧ c ≤ 57)
def ltr (c : Int) : Bool := decide (97 ≤ c ∧ c ≤ 122) || decide (65 ≤ c ∧ c ≤ 90)
theorem dgt_f (c : Int) : version_isDigit.f c = some (dgt c) := by
  unfold version_isDigit.f dgt
  split
  · congr 1
    simp only [decide_eq_decide]
    omega
  · congr 1
    symm
    simp only [decide_eq_false_iff_not]
    omega
theorem ltr_f (c : Int) : version_isLetter.f c = some (ltr c) := by
  unfold version_isLetter.f ltr
  repeat' split
  all_goals
    congr 1
    rw [Bool.eq_iff_iff]
    simp
    omega
def hasR (s : ByteArray) (r : Int) : Bool := !runesAll (fun c => decide ((c : Int) ≠ r)) s s.size 0
/-- One rune of 'made'. -/
def madeP (a1 : Bool) (a2 : ByteArray) (c : Nat) : Bool := dgt c || (a1 && ltr c) || (decide ((c : Int) < 128) && hasR a2 c)
/-- 'made': all runes. -/
def version_made.f (a0 : ByteArray) (a1 : Bool) (a2 : ByteArray) : Option (Bool) := some (runesAll (madeP a1 a2) a0 a0.size 0)
theorem iterPos_of {w : World} {k : Nat} {s : ByteArray} {pos : Nat} (h : w.heap[k]? = some (.stringIter s pos)) : w.iterPos k = pos := by
  simp [World.iterPos, h]
set_option maxHeartbeats 4000000 in
set_option maxRecDepth 100000 in
theorem version_made.calls (a0 : ByteArray) (a1 : Bool) (a2 : ByteArray) (r : Bool) (w : World) (h : version_made.f a0 a1 a2 = some r) :
    Calls Tryd.prog 94 #[.string a0, .bool a1, .string a2] w fun e w' => e = .returned (.bool r) ∧ Below w.heap.size w w' := by
  have Hr : Hid (r = runesAll (madeP a1 a2) a0 a0.size 0) := (Option.some.inj h).symm
  clear h
  go_enter Tryd.func94, Tryd.ntmps94
  go_wp2
  go_loopw [] (fun wr => ∃ pos fuel : Nat, Hid (wr.heap[w.heap.size]? = some (.stringIter a0 pos)) ∧ Hid (Below w.heap.size w wr) ∧ a0.size ≤ pos + fuel ∧ Hid (runesAll (madeP a1 a2) a0 a0.size 0 = runesAll (madeP a1 a2) a0 fuel pos)) (fun wr => a0.size - wr.iterPos w.heap.size)
  case atStart => exact ⟨0, a0.size, World.iter_heap w a0 0, (Below.refl _ w).alloc (Nat.le_refl _) _, by omega, rfl⟩
  case round =>
    obtain ⟨pos, fuel, hit, hb, hf, hr⟩ := hrel
    have hsz : w.heap.size < wr.heap.size := (Array.getElem?_eq_some_iff.1 hit.out).1
    by_cases hp : pos < a0.size
    · have hnx : ∀ ty, (Instr.next (.pointer (some ⟨w.heap.size, 0, none⟩)) true ty).run Tryd.prog wr = _ := fun ty => Lib.run_next_any_at wr w.heap.size a0 pos ty hit.out hp
      obtain ⟨f, rfl⟩ : ∃ f, fuel = f + 1 := ⟨fuel - 1, by omega⟩
      have hwd := width_pos a0 pos hp
      have Hnx := Lib.hid (hr.out.trans (runesAll_step _ a0 f pos hp))
      clear hr
      have Hit2 := Lib.hid (Lib.iterAt_heap wr w.heap.size a0 pos (pos + (Utf8.decode a0 pos).2) hit.out)
      have Hb2 := Lib.hid (Lib.below_iterAt hb.out (k := w.heap.size) (Nat.le_refl _) a0 (pos + (Utf8.decode a0 pos).2))
      have hsz2 : w.heap.size < (wr.iterAt w.heap.size a0 (pos + (Utf8.decode a0 pos).2)).heap.size := by rw [Lib.iterAt_size]; omega
      have Hit0 := Lib.hid hit.out
      clear hit hb
      obtain ⟨d, Hd⟩ : ∃ d, Hid (version_isDigit.f ((Utf8.decode a0 pos).1 : Int) = some d ∧ d = dgt ((Utf8.decode a0 pos).1 : Int)) := ⟨_, dgt_f _, rfl⟩
      obtain ⟨l, Hl⟩ : ∃ l, Hid (version_isLetter.f ((Utf8.decode a0 pos).1 : Int) = some l ∧ l = ltr ((Utf8.decode a0 pos).1 : Int)) := ⟨_, ltr_f _, rfl⟩
      obtain ⟨m, Hm⟩ : ∃ m, Hid (version_hasRune.f a2 ((Utf8.decode a0 pos).1 : Int) = some m ∧ m = hasR a2 ((Utf8.decode a0 pos).1 : Int)) := ⟨_, rfl, rfl⟩
      obtain ⟨t, Ht⟩ : ∃ t, Hid (t = decide (((Utf8.decode a0 pos).1 : Int) < 128)) := ⟨_, rfl⟩
      have Hall : Hid (madeP a1 a2 (Utf8.decode a0 pos).1 = (d || (a1 && l) || (t && m))) := by
        unfold madeP; rw [Hd.out.2, Hl.out.2, Hm.out.2, Ht.out]; rfl
      have ht : decide (((Utf8.decode a0 pos).1 : Int) < 128) = t := Ht.out.symm
      have Hj := Lib.hid (show ∀ q, (d || (a1 && l) || (t && m)) = q → runesAll (madeP a1 a2) a0 a0.size 0 = (q && runesAll (madeP a1 a2) a0 f (pos + (Utf8.decode a0 pos).2)) from fun q hq => Hnx.out.trans (by rw [Hall.out, hq]))
      clear Hnx Hall
      have hd : ∀ b, b = d → version_isDigit.f ((Utf8.decode a0 pos).1 : Int) = some b := fun b e => by rw [e]; exact Hd.out.1
      have hl : ∀ b, b = l → version_isLetter.f ((Utf8.decode a0 pos).1 : Int) = some b := fun b e => by rw [e]; exact Hl.out.1
      have hm : ∀ b, b = m → version_hasRune.f a2 ((Utf8.decode a0 pos).1 : Int) = some b := fun b e => by rw [e]; exact Hm.out.1
      have Hdd := Lib.hid hd; have Hll := Lib.hid hl; have Hmm := Lib.hid hm
      clear hd hl hm Hd Hl Hm Ht
      cases d <;> cases a1 <;> cases l <;> cases t <;> cases m
      all_goals
        have Hq := Lib.hid (Hj.out _ rfl)
        clear Hj
        go_wp2_with (first | (go_at_call 93; refine (version_isDigit.calls _ _ _ (Hdd.out _ rfl)).mono ?_; rintro e w' ⟨rfl, ⟨nd, rfl⟩⟩) | (go_at_call 114; refine (version_isLetter.calls _ _ _ (Hll.out _ rfl)).mono ?_; rintro e w' ⟨rfl, ⟨nd, rfl⟩⟩) | (go_at_call 115; refine (version_hasRune.calls _ _ _ _ (Hmm.out _ rfl)).mono ?_; rintro e w' ⟨rfl, hbw⟩; have Hbw := Lib.hid hbw; clear hbw))
      all_goals first
        | (go_ret
           obtain rfl := Hr.out
           refine ⟨by rw [Hq.out]; rfl, ?_⟩
           first
             | (refine below_then ?_ ?_ Hbw.out
                · repeat (first | exact Hb2.out | apply pw_below_drewN)
                · exact Nat.le_of_lt hsz2)
             | (repeat (first | exact Hb2.out | apply pw_below_drewN)))
        | (have Hit3 := Lib.hid ((Hbw.out.block w.heap.size hsz2).trans Hit2.out)
           go_roundw
           case rel =>
             refine ⟨pos + (Utf8.decode a0 pos).2, f, Hit3.out, ?_, by omega, Hq.out⟩
             refine below_then ?_ ?_ Hbw.out
             · repeat (first | exact Hb2.out | apply pw_below_drewN)
             · exact Nat.le_of_lt hsz2
           case measure =>
             simp only [World.iterPos, Hit0.out, Hit3.out]
             omega)
        | (have Hit3 := Hit2
           go_roundw
           case rel =>
             refine ⟨pos + (Utf8.decode a0 pos).2, f, Hit2.out, ?_, by omega, Hq.out⟩
             repeat (first | exact Hb2.out | apply pw_below_drewN)
           case measure =>
             rw [iterPos_of Hit0.out]
             refine Nat.lt_of_le_of_lt (Nat.le_of_eq (congrArg (a0.size - ·) (iterPos_of Hit2.out))) ?_
             omega)
    · have hnx : ∀ ty, (Instr.next (.pointer (some ⟨w.heap.size, 0, none⟩)) true ty).run Tryd.prog wr = _ := fun ty => Lib.run_next_end_at wr w.heap.size a0 pos ty hit.out hp
      have Hend := Lib.hid (hr.out.trans (runesAll_end _ a0 fuel pos hp))
      clear hr
      go_wp2
      go_ret
      obtain rfl := Hr.out
      exact ⟨by rw [Hend.out]; rfl, hb.out⟩


/-! ### version_parted: function 72 -/
def emptyB : ByteArray := ⟨#[]⟩
def othersOf (colon : Bool) : ByteArray := if colon then ⟨#[46, 43, 45, 126, 58]⟩ else ⟨#[46, 43, 45, 126]⟩
def ok1 (colon minus : Bool) (e up rev : ByteArray) : Bool := (!colon || !e.toList.isEmpty) && (!minus || !rev.toList.isEmpty) && !up.toList.isEmpty && dgt (bt up 0)
theorem two_new (w : World) (o1 o2 : Obj) (n : Nat) : (((w.alloc o1).alloc o2).drewN n).heap[w.heap.size]? = some o1 ∧ (((w.alloc o1).alloc o2).drewN n).heap[w.heap.size + 1]? = some o2 ∧ Below w.heap.size w (((w.alloc o1).alloc o2).drewN n) := by
  refine ⟨blk_drewN (blk_alloc (blk_new w o1) o2) n, blk_drewN ?_ n, pw_below_drewN (below_alloc (below_alloc (Below.refl _ w) o1) o2) n⟩
  have := blk_new (w.alloc o1) o2
  rwa [World.size_alloc] at this
set_option maxHeartbeats 4000000 in
set_option maxRecDepth 1000000 in
/-- The beginning: the parts lie in p; then the test. -/
theorem version_parted.walk (k : Nat) (s e rest up rev c6 c7 : ByteArray) (colon minus : Bool) (m : Int) (a1 a2 a3 : Bool) (w : World)
    (hcut : strings_Cut.f s ⟨#[58]⟩ = some (c6, c7, colon))
    (hyes : colon = true → c6 = e ∧ c7 = rest)
    (hrest : colon = false → rest = s ∧ e = emptyB)
    (hlast : strings_LastIndexByte.f k rest 45 = some m)
    (hm : minus = false → m < 0 ∧ up = rest ∧ rev = emptyB)
    (hm2 : minus = true → 0 ≤ m ∧ m + 1 ≤ rest.size ∧ up = rest.extract 0 m.toNat ∧ rev = rest.extract (m + 1).toNat rest.size)
    (hsz : (rest.size : Int) ≤ 140737488351232)
    (h1 : version_made.f e false emptyB = some a1) (h2 : version_made.f up true (othersOf colon) = some a2) (h3 : version_made.f rev true ⟨#[43, 46, 126]⟩ = some a3) :
    Calls Tryd.prog 72 #[.string s] w fun e' w' => e' = .returned (.tuple #[.agg #[.string e, .string up, .string rev], .bool (ok1 colon minus e up rev && (a1 && (a2 && a3)))]) ∧ Below w.heap.size w w' := by
  have Hcut := Lib.hid hcut; clear hcut
  have Hlast := Lib.hid hlast; clear hlast
  have Hrest := Lib.hid hrest; clear hrest
  have Hyes := Lib.hid hyes; clear hyes
  have Hm := Lib.hid hm; clear hm
  have Hm2 := Lib.hid hm2; clear hm2
  have H1 := Lib.hid h1; clear h1
  have H2 := Lib.hid h2; clear h2
  have H3 := Lib.hid h3; clear h3
  have hu27 := Tryd.underlying108
  go_enter Tryd.func72, Tryd.ntmps72
  go_upto_if 19 with (go_at_call 91; refine (strings_Cut.calls _ _ _ _ _ _ Hcut.out).mono ?_; rintro e' w' ⟨rfl, ⟨nd, rfl⟩⟩)
  go_cut [5] (fun s5 wx => s5 = .string rest ∧ Hid (wx.heap[w.heap.size]? = some (.cells #[.string emptyB, .string emptyB, .string emptyB] 108 (0, 0))) ∧ Hid (wx.heap[w.heap.size + 1]? = some (.cells #[.string e, .string emptyB, .string emptyB] 108 (0, 0))) ∧ Hid (Below w.heap.size w wx))
  case first =>
    cases colon
    · obtain ⟨er, ee⟩ := Hrest.out rfl
      have He := Lib.hid ee; have Her := Lib.hid er
      clear er ee
      go_wp2_with fail
      go_meet
      obtain ⟨q1, q2, q3⟩ := two_new w (.cells #[.string emptyB, .string emptyB, .string emptyB] 108 (0, 0)) (.cells #[.string emptyB, .string emptyB, .string emptyB] 108 (0, 0)) nd
      exact ⟨by rw [Her.out], q1, by rw [He.out]; exact q2, q3⟩
    · obtain ⟨er, ee⟩ := Hyes.out rfl
      have He := Lib.hid er; have Her := Lib.hid ee
      clear er ee
      go_wp2_with fail
      go_meet
      obtain ⟨q1, q2, q3⟩ := two_new w (.cells #[.string emptyB, .string emptyB, .string emptyB] 108 (0, 0)) (.cells #[.string emptyB, .string emptyB, .string emptyB] 108 (0, 0)) nd
      exact ⟨by rw [Her.out], blk_far q1 (by simp) _, blk_put q2 0 _ (by rw [He.out]; rfl), below_set q3 (by simp)⟩
  case rest =>
    obtain ⟨rfl, hR, hP, hB⟩ := hcut
    have hc1 := blk_cell hP.out 1
    have hz1 := blk_frozen hP.out 1
    simp only [List.getElem?_toArray, List.getElem?_cons_succ, List.getElem?_cons_zero] at hc1
    go_upto_region 7 with fail
    clear hc1 hz1
    go_cut [9] (fun s9 wx => s9 = .int .i64 m ∧ Hid (wx.heap[w.heap.size]? = some (.cells #[.string emptyB, .string emptyB, .string emptyB] 108 (0, 0))) ∧ Hid (wx.heap[w.heap.size + 1]? = some (.cells #[.string e, .string rest, .string emptyB] 108 (0, 0))) ∧ Hid (Below w.heap.size w wx))
    case first =>
      go_wp2_with (go_at_call 92; refine (strings_LastIndexByte.calls _ _ _ _ _ Hlast.out).mono ?_; rintro e' w' ⟨rfl, ⟨nd2, rfl⟩⟩)
      go_meet
      exact ⟨rfl, blk_drewN (blk_far hR.out (by simp) _) _, blk_drewN (blk_put hP.out 1 _ rfl) _, pw_below_drewN (below_set hB.out (by simp)) _⟩
    case rest =>
      obtain ⟨rfl, hR, hP, hB⟩ := hcut
      have Hge : Hid (minus = decide (0 ≤ m)) := by
        cases minus
        · have := (Hm.out rfl).1
          exact (decide_eq_false (by omega)).symm
        · have := (Hm2.out rfl).1
          exact (decide_eq_true (by omega)).symm
      go_upto_if 28 with fail
      go_cut [] (fun wx => Hid (wx.heap[w.heap.size]? = some (.cells #[.string emptyB, .string emptyB, .string emptyB] 108 (0, 0))) ∧ Hid (wx.heap[w.heap.size + 1]? = some (.cells #[.string e, .string up, .string rev] 108 (0, 0))) ∧ Hid (Below w.heap.size w wx))
      case first =>
        cases minus
        · obtain ⟨m1, m2, m3⟩ := Hm.out rfl
          have M2 := Lib.hid m2; have M3 := Lib.hid m3
          clear m2 m3
          have hd : decide (0 ≤ m) = false := decide_eq_false (by omega)
          go_wp2_with fail
          go_meet
          exact ⟨hR.out, by rw [M2.out, M3.out]; exact hP.out, hB.out⟩
        · obtain ⟨m0, m1, m2, m3⟩ := Hm2.out rfl
          have M2 := Lib.hid m2; have M3 := Lib.hid m3
          clear m2 m3
          have hd : decide (0 ≤ m) = true := decide_eq_true (by omega)
          have hz1 := blk_frozen hP.out 1
          have hz2 := blk_frozen hP.out 2
          have hc1 := blk_cell hP.out 1
          have hc2 := blk_cell hP.out 2
          simp only [List.getElem?_toArray, List.getElem?_cons_succ, List.getElem?_cons_zero] at hc1 hc2
          go_wp2_with fail
          go_region
          all_goals (go_wp2_with fail)
          all_goals go_meet
          all_goals exact ⟨blk_drew (blk_far (blk_far hR.out (by simp) _) (by simp) _), by rw [M2.out, M3.out]; exact blk_drew (blk_put (blk_put hP.out 1 _ rfl) 2 _ rfl), below_drew (below_set (below_set hB.out (by simp)) (by simp))⟩
      case rest =>
        obtain ⟨hR, hP, hB⟩ := hcut
        go_upto_if 38 with fail
        go_cut [10] (fun s10 wx => s10 = .string (othersOf colon) ∧ Hid (wx.heap[w.heap.size]? = some (.cells #[.string emptyB, .string emptyB, .string emptyB] 108 (0, 0))) ∧ Hid (wx.heap[w.heap.size + 1]? = some (.cells #[.string e, .string up, .string rev] 108 (0, 0))) ∧ Hid (Below w.heap.size w wx))
        case first =>
          cases colon
          all_goals
            go_wp2_with fail
            go_meet
            exact ⟨rfl, hR.out, hP.out, hB.out⟩
        case rest =>
          obtain ⟨rfl, hR, hP, hB⟩ := hcut
          go_upto_region 13 with fail
          go_cut [11] (fun s11 wx => s11 = .bool (ok1 colon minus e up rev) ∧ Hid (wx.heap[w.heap.size]? = some (.cells #[.string emptyB, .string emptyB, .string emptyB] 108 (0, 0))) ∧ Hid (wx.heap[w.heap.size + 1]? = some (.cells #[.string e, .string up, .string rev] 108 (0, 0))) ∧ Hid (Below w.heap.size w wx))
          case first =>
            have hc1 := blk_cell hP.out 1
            have hc2 := blk_cell hP.out 2
            simp only [List.getElem?_toArray, List.getElem?_cons_succ, List.getElem?_cons_zero] at hc1 hc2
            have hlt : decide (m < 0) = !minus := by
              rw [Hge.out, ← decide_not]
              simp only [decide_eq_decide]
              omega
            obtain ⟨be, hbe⟩ : ∃ b, c6.toList.isEmpty = b := ⟨_, rfl⟩
            obtain ⟨br, hbr⟩ : ∃ b, rev.toList.isEmpty = b := ⟨_, rfl⟩
            obtain ⟨bu, hbu⟩ : ∃ b, up.toList.isEmpty = b := ⟨_, rfl⟩
            have Hok : Hid (ok1 colon minus e up rev = ((!colon || !be) && (!minus || !br) && !bu && dgt (bt up 0))) := by
              unfold ok1
              rw [hbr, hbu]
              cases colon
              · rfl
              · rw [← (Hyes.out rfl).1, hbe]; rfl
            obtain ⟨dg, Hdg⟩ : ∃ d, Hid (dgt (bt up 0) = d) := ⟨_, rfl⟩
            have Hok2 := Lib.hid (Hok.out.trans (congrArg _ Hdg.out))
            have Hdgf := Lib.hid ((dgt_f (bt up 0)).trans (congrArg some Hdg.out))
            clear Hok
            cases bu with
            | true =>
              cases colon <;> cases minus <;> cases be <;> cases br
              all_goals (go_wp2_with fail)
              all_goals go_meet
              all_goals exact ⟨by rw [Hok2.out]; simp, hR.out, hP.out, hB.out⟩
            | false =>
              have hu0 : 0 < up.size := by
                cases h : up.size with
                | zero =>
                  have e0 : up.toList = [] := by
                    rw [Lib.toList_data]
                    exact List.eq_nil_of_length_eq_zero (by simpa using h)
                  rw [e0] at hbu
                  cases hbu
                | succ n => omega
              have hu1 : (0 : Int) < (up.size : Int) := by omega
              have hw32 : wrap32 (((up[0]'hu0).toNat : Nat) : Int) = bt up 0 := by
                have h255 := (up[0]'hu0).toNat_lt
                rw [show bt up 0 = (((up[0]'hu0).toNat : Nat) : Int) from (bt_at up 0 hu0).symm]
                unfold wrap32
                omega
              cases colon <;> cases minus <;> cases be <;> cases br
              all_goals (go_wp2_with (go_at_call 93; refine (version_isDigit.calls _ _ _ Hdgf.out).mono ?_; rintro e' w' ⟨rfl, ⟨nd3, rfl⟩⟩))
              all_goals go_meet
              all_goals exact ⟨by rw [Hok2.out]; simp, hR.out, hP.out, by first | exact hB.out | exact pw_below_drewN hB.out _⟩
          case rest =>
            obtain ⟨rfl, hR, hP, hB⟩ := hcut
            have hc0 := blk_cell hP.out 0
            have hc1 := blk_cell hP.out 1
            have hc2 := blk_cell hP.out 2
            have hr0 := blk_cell hR.out 0
            have hr1 := blk_cell hR.out 1
            have hr2 := blk_cell hR.out 2
            have hz0 := blk_frozen hR.out 0
            have hz1 := blk_frozen hR.out 1
            have hz2 := blk_frozen hR.out 2
            simp only [List.getElem?_toArray, List.getElem?_cons_succ, List.getElem?_cons_zero] at hc0 hc1 hc2 hr0 hr1 hr2
            cases ho : ok1 colon minus e up rev
            · have Ho := Lib.hid ho
              clear ho
              go_wp2_with fail
              refine bodyPost_ret (results_ct rfl _ _ w.heap.size 108 #[.string e, .string up, .string rev] (0, 0) _ rfl (blk_put (blk_put (blk_put hR.out 0 _ rfl) 1 _ rfl) 2 _ rfl) Tryd.underlying108 rfl rfl) rfl ⟨by rw [Ho.out]; rfl, below_set (below_set (below_set hB.out (Nat.le_refl _)) (Nat.le_refl _)) (Nat.le_refl _)⟩
            · have Ho := Lib.hid ho
              clear ho
              cases a1 with
              | false =>
                go_wp2_with fail
                refine (version_made.calls _ _ _ _ _ H1.out).mono ?_
                rintro e' w1 ⟨rfl, hb⟩
                have hR1 := Lib.hid (blk_below hR.out hb)
                have hP1 := Lib.hid (blk_below hP.out hb)
                have hB1 := Lib.hid (below_then hB.out (below_size hB.out) hb)
                clear hb hc0 hc1 hc2 hr0 hr1 hr2 hz0 hz1 hz2
                have hc0 := blk_cell hP1.out 0
                have hc1 := blk_cell hP1.out 1
                have hc2 := blk_cell hP1.out 2
                have hr0 := blk_cell hR1.out 0
                have hr1 := blk_cell hR1.out 1
                have hr2 := blk_cell hR1.out 2
                have hz0 := blk_frozen hR1.out 0
                have hz1 := blk_frozen hR1.out 1
                have hz2 := blk_frozen hR1.out 2
                simp only [List.getElem?_toArray, List.getElem?_cons_succ, List.getElem?_cons_zero] at hc0 hc1 hc2 hr0 hr1 hr2
                go_wp2_with fail
                refine bodyPost_ret (results_ct rfl _ _ w.heap.size 108 #[.string e, .string up, .string rev] (0, 0) _ rfl (blk_put (blk_put (blk_put hR1.out 0 _ rfl) 1 _ rfl) 2 _ rfl) Tryd.underlying108 rfl rfl) rfl ⟨by rw [Ho.out]; rfl, below_set (below_set (below_set hB1.out (Nat.le_refl _)) (Nat.le_refl _)) (Nat.le_refl _)⟩
              | true =>
                go_wp2_with fail
                refine (version_made.calls _ _ _ _ _ H1.out).mono ?_
                rintro e' w1 ⟨rfl, hb⟩
                have hR1 := Lib.hid (blk_below hR.out hb)
                have hP1 := Lib.hid (blk_below hP.out hb)
                have hB1 := Lib.hid (below_then hB.out (below_size hB.out) hb)
                clear hb hc0 hc1 hc2 hr0 hr1 hr2 hz0 hz1 hz2
                have hc0 := blk_cell hP1.out 0
                have hc1 := blk_cell hP1.out 1
                have hc2 := blk_cell hP1.out 2
                have hr0 := blk_cell hR1.out 0
                have hr1 := blk_cell hR1.out 1
                have hr2 := blk_cell hR1.out 2
                have hz0 := blk_frozen hR1.out 0
                have hz1 := blk_frozen hR1.out 1
                have hz2 := blk_frozen hR1.out 2
                simp only [List.getElem?_toArray, List.getElem?_cons_succ, List.getElem?_cons_zero] at hc0 hc1 hc2 hr0 hr1 hr2
                go_wp2_with fail
                cases a2 with
                | false =>
                  refine (version_made.calls _ _ _ _ _ H2.out).mono ?_
                  rintro e' w2 ⟨rfl, hb⟩
                  have hR2 := Lib.hid (blk_below hR1.out hb)
                  have hP2 := Lib.hid (blk_below hP1.out hb)
                  have hB2 := Lib.hid (below_then hB1.out (below_size hB1.out) hb)
                  clear hb hc0 hc1 hc2 hr0 hr1 hr2 hz0 hz1 hz2
                  have hc0 := blk_cell hP2.out 0
                  have hc1 := blk_cell hP2.out 1
                  have hc2 := blk_cell hP2.out 2
                  have hr0 := blk_cell hR2.out 0
                  have hr1 := blk_cell hR2.out 1
                  have hr2 := blk_cell hR2.out 2
                  have hz0 := blk_frozen hR2.out 0
                  have hz1 := blk_frozen hR2.out 1
                  have hz2 := blk_frozen hR2.out 2
                  simp only [List.getElem?_toArray, List.getElem?_cons_succ, List.getElem?_cons_zero] at hc0 hc1 hc2 hr0 hr1 hr2
                  go_wp2_with fail
                  refine bodyPost_ret (results_ct rfl _ _ w.heap.size 108 #[.string e, .string up, .string rev] (0, 0) _ rfl (blk_put (blk_put (blk_put hR2.out 0 _ rfl) 1 _ rfl) 2 _ rfl) Tryd.underlying108 rfl rfl) rfl ⟨by rw [Ho.out]; rfl, below_set (below_set (below_set hB2.out (Nat.le_refl _)) (Nat.le_refl _)) (Nat.le_refl _)⟩
                | true =>
                  refine (version_made.calls _ _ _ _ _ H2.out).mono ?_
                  rintro e' w2 ⟨rfl, hb⟩
                  have hR2 := Lib.hid (blk_below hR1.out hb)
                  have hP2 := Lib.hid (blk_below hP1.out hb)
                  have hB2 := Lib.hid (below_then hB1.out (below_size hB1.out) hb)
                  clear hb hc0 hc1 hc2 hr0 hr1 hr2 hz0 hz1 hz2
                  have hc0 := blk_cell hP2.out 0
                  have hc1 := blk_cell hP2.out 1
                  have hc2 := blk_cell hP2.out 2
                  have hr0 := blk_cell hR2.out 0
                  have hr1 := blk_cell hR2.out 1
                  have hr2 := blk_cell hR2.out 2
                  have hz0 := blk_frozen hR2.out 0
                  have hz1 := blk_frozen hR2.out 1
                  have hz2 := blk_frozen hR2.out 2
                  simp only [List.getElem?_toArray, List.getElem?_cons_succ, List.getElem?_cons_zero] at hc0 hc1 hc2 hr0 hr1 hr2
                  go_wp2_with fail
                  refine (version_made.calls _ _ _ _ _ H3.out).mono ?_
                  rintro e' w3 ⟨rfl, hb⟩
                  have hR3 := Lib.hid (blk_below hR2.out hb)
                  have hP3 := Lib.hid (blk_below hP2.out hb)
                  have hB3 := Lib.hid (below_then hB2.out (below_size hB2.out) hb)
                  clear hb hc0 hc1 hc2 hr0 hr1 hr2 hz0 hz1 hz2
                  have hc0 := blk_cell hP3.out 0
                  have hc1 := blk_cell hP3.out 1
                  have hc2 := blk_cell hP3.out 2
                  have hr0 := blk_cell hR3.out 0
                  have hr1 := blk_cell hR3.out 1
                  have hr2 := blk_cell hR3.out 2
                  have hz0 := blk_frozen hR3.out 0
                  have hz1 := blk_frozen hR3.out 1
                  have hz2 := blk_frozen hR3.out 2
                  simp only [List.getElem?_toArray, List.getElem?_cons_succ, List.getElem?_cons_zero] at hc0 hc1 hc2 hr0 hr1 hr2
                  go_wp2_with fail
                  refine bodyPost_ret (results_ct rfl _ _ w.heap.size 108 #[.string e, .string up, .string rev] (0, 0) _ rfl (blk_put (blk_put (blk_put hR3.out 0 _ rfl) 1 _ rfl) 2 _ rfl) Tryd.underlying108 rfl rfl) rfl ⟨by rw [Ho.out]; rfl, below_set (below_set (below_set hB3.out (Nat.le_refl _)) (Nat.le_refl _)) (Nat.le_refl _)⟩
/-- What 'parted' tells of its pieces. -/
def fin (colon minus : Bool) (e up rev : ByteArray) : ByteArray × ByteArray × ByteArray × Bool :=
  (e, up, rev, ok1 colon minus e up rev && (runesAll (madeP false emptyB) e e.size 0 && (runesAll (madeP true (othersOf colon)) up up.size 0 && runesAll (madeP true ⟨#[43, 46, 126]⟩) rev rev.size 0)))
/-- The second cut: at the last minus. -/
def minusOf (colon : Bool) (e rest : ByteArray) (m : Int) : Option (ByteArray × ByteArray × ByteArray × Bool) :=
  if 0 ≤ m then (if m + 1 ≤ rest.size then some (fin colon true e (rest.extract 0 m.toNat) (rest.extract (m + 1).toNat rest.size)) else none) else some (fin colon false e rest emptyB)
def restOf (s : ByteArray) (c : ByteArray × ByteArray × Bool) : ByteArray := if c.2.2 then c.2.1 else s
def epochOf (c : ByteArray × ByteArray × Bool) : ByteArray := if c.2.2 then c.1 else emptyB
/-- 'parted'. -/
def version_parted.f (k : Nat) (a0 : ByteArray) : Option (ByteArray × ByteArray × ByteArray × Bool) :=
  (strings_Cut.f a0 ⟨#[58]⟩).bind fun c => (strings_LastIndexByte.f k (restOf a0 c) 45).bind fun m => if (restOf a0 c).size ≤ 140737488351232 then minusOf c.2.2 (epochOf c) (restOf a0 c) m else none
theorem version_parted.mono : ∀ a0 k, LeO (version_parted.f k a0) (version_parted.f (k + 1) a0) := by
  intro a0 k r h
  unfold version_parted.f at h ⊢
  obtain ⟨c, hc, h⟩ := Option.bind_eq_some_iff.mp h
  obtain ⟨m, hm, h⟩ := Option.bind_eq_some_iff.mp h
  rw [hc, Option.bind_some, strings_LastIndexByte.mono _ _ k m hm]
  exact h
theorem version_parted.calls (k : Nat) (a0 : ByteArray) (r1 : ByteArray) (r2 : ByteArray) (r3 : ByteArray) (r4 : Bool) (w : World) (h : version_parted.f k a0 = some (r1, r2, r3, r4)) :
    Calls Tryd.prog 72 #[.string a0] w fun e w' => e = .returned (.tuple #[.agg #[.string r1, .string r2, .string r3], .bool r4]) ∧ Below w.heap.size w w' := by
  unfold version_parted.f at h
  obtain ⟨⟨c6, c7, colon⟩, hc, h⟩ := Option.bind_eq_some_iff.mp h
  obtain ⟨m, hm, h⟩ := Option.bind_eq_some_iff.mp h
  split at h
  case isFalse => cases h
  case isTrue hz =>
    unfold minusOf at h
    split at h
    · split at h
      case isFalse => cases h
      case isTrue h0 h1 =>
        have h := Option.some.inj h
        simp only [fin, Prod.mk.injEq] at h
        obtain ⟨rfl, rfl, rfl, rfl⟩ := h
        exact version_parted.walk k a0 _ (restOf a0 (c6, c7, colon)) _ _ c6 c7 colon true m _ _ _ w hc (by rintro rfl; exact ⟨rfl, rfl⟩) (by rintro rfl; exact ⟨rfl, rfl⟩) hm (fun h => by cases h) (fun _ => ⟨h0, h1, rfl, rfl⟩) (by omega) rfl rfl rfl
    · rename_i h0
      have h := Option.some.inj h
      simp only [fin, Prod.mk.injEq] at h
      obtain ⟨rfl, rfl, rfl, rfl⟩ := h
      exact version_parted.walk k a0 _ (restOf a0 (c6, c7, colon)) _ _ c6 c7 colon false m _ _ _ w hc (by rintro rfl; exact ⟨rfl, rfl⟩) (by rintro rfl; exact ⟨rfl, rfl⟩) hm (fun _ => ⟨by omega, rfl, rfl⟩) (fun h => by cases h) (by omega) rfl rfl rfl


/-! ### version_Legal: function 50 -/
def version_Legal.f (k : Nat) (a0 : ByteArray) : Option (Bool) := (version_parted.f k a0).bind fun bt106 => (some bt106.2.2.2)
theorem version_Legal.mono : ∀ a0 k, LeO (version_Legal.f k a0) (version_Legal.f (k + 1) a0) := by
  intro a0 k
  unfold version_Legal.f
  repeat' first
      | (with_reducible exact version_parted.mono _ _)
      | (with_reducible exact LeO.refl _)
      | (with_reducible exact LeO.none _)
      | (with_reducible refine LeO.ite ?_ ?_)
      | (with_reducible refine LeO.bind ?_ (fun _ => ?_))
      | exact version_parted.mono _ _
      | exact LeO.none _
      | refine LeO.ite ?_ ?_
      | refine LeO.bind ?_ (fun _ => ?_)
set_option maxHeartbeats 8000000 in
set_option maxRecDepth 100000 in
theorem version_Legal.calls (k : Nat) (a0 : ByteArray) (r : Bool) (w : World) (h : version_Legal.f k a0 = some r) :
    Calls Tryd.prog 50 #[.string a0] w fun e w' => e = .returned (.bool r) ∧ Below w.heap.size w w' := by
  have hu108 := Tryd.underlying108
  have HB := Aside0.mk (Below.refl w.heap.size w)
  have H : ((version_parted.f k a0).bind fun bt106 => (some bt106.2.2.2)) = some r := h
  clear h
  replace H := Option.bind_eq_some_iff.mp H
  obtain ⟨⟨t106, t107, t108, t109⟩, A20, H⟩ := H
  replace H : (some t109) = some r := H
  have A2 := Aside0.mk A20
  clear A20
  obtain rfl := Option.some.inj H
  go_enter Tryd.func50, Tryd.ntmps50
  go_wp2_with (first | ((with_reducible refine gate_callee (f := 72) rfl ?_); refine goesL_ (some 7) rfl rfl Tryd.func72 (by kernel_rfl) rfl #[.string a0] rfl (by (try simp only [List.map_toArray, List.map_cons, List.map_nil]); first | done | rfl | (simp only [List.length_drop, List.length_take]; rfl)) ?_; (with_reducible refine (version_parted.calls k a0 t106 t107 t108 t109 _ A2.out).mono ?_); rintro e w3 ⟨rfl, hb⟩; refine ⟨_, rfl, ?_⟩; have n0_ := Aside0.mk (below_step (by repeat (first | (with_reducible first | exact HB.out | apply below_alloc | apply pw_below_drewN | apply below_drew1) | exact HB.out)) hb); clear HB; have HB := n0_; clear n0_; (try clear hb); (try clear hb2); (try clear hk); (try clear hi)) | ((with_reducible refine gate_dst (N := 3) rfl ?_); refine box_event ?hg (N := 3) ?hd (cs := #[.string (⟨#[]⟩ : ByteArray), .string (⟨#[]⟩ : ByteArray), .string (⟨#[]⟩ : ByteArray)]) (t := 108) ?hr ?_; (case hd => rfl); (case hg => rfl); (case hr => first | (go_simp; done) | (go_simp; rfl)); intro gb110 hg w4 hbox hb; have n0_ := Aside0.mk (below_step (by repeat (first | (with_reducible first | exact HB.out | apply below_alloc | apply pw_below_drewN | apply below_drew1) | exact HB.out)) hb); have n1_ := Aside0.mk (hbox); have n2_ := Aside0.mk ((by rw [hg]; exact (below_size (by repeat (first | (with_reducible first | exact HB.out | apply below_alloc | apply pw_below_drewN | apply below_drew1) | exact HB.out))) : w.heap.size ≤ gb110)); have n3_ := Aside0.mk ((by rw [hg]; exact (below_size (by repeat (first | (with_reducible first | exact HB.out | apply below_alloc | apply pw_below_drewN | apply below_drew1) | exact HB.out))) : w.heap.size ≤ gb110)); clear HB; have HB := n0_; have BK110 := n1_; have GW110 := n2_; have GE110 := n3_; clear n0_ n1_ n2_ n3_; clear hb hbox hg; have hcz5_0 : w4.cell? ⟨gb110, 0, none⟩ = some (.string (⟨#[]⟩ : ByteArray)) := (blk_cell BK110.out 0).trans rfl; have hcz5_1 : w4.cell? ⟨gb110, 1, none⟩ = some (.string (⟨#[]⟩ : ByteArray)) := (blk_cell BK110.out 1).trans rfl; have hcz5_2 : w4.cell? ⟨gb110, 2, none⟩ = some (.string (⟨#[]⟩ : ByteArray)) := (blk_cell BK110.out 2).trans rfl; have hfz5_0 := blk_frozen BK110.out 0; have hfz5_1 := blk_frozen BK110.out 1; have hfz5_2 := blk_frozen BK110.out 2))
  go_ret
  exact ⟨by first | rfl | (simp [errW_none, errW_some] <;> rfl) | (simp [*, errW_none, errW_some] <;> rfl) | (simp [errW_none, errW_some, Go.Proofs.YtmocooihkobdjaaDoor.listNe]; done), by repeat (first | (with_reducible first | exact HB.out | apply below_alloc | apply pw_below_drewN | apply below_drew1 | refine below_set ?_ GE110.out) | exact HB.out)⟩

/-! ### relation_Formed: function 26 -/
def relation_Formed.f (k : Nat) (a0_0 : ByteArray) (a0_1 : Int) (a0_2 : ByteArray) : Option (Bool) := (relation_Name.f k a0_0).bind fun t112 => (if t112 = true then (if a0_1 = 0 then (some (a0_2.toList == ([] : List UInt8))) else ((relation_word.f a0_1).bind fun t113 => (if t113.toList = ([] : List UInt8) then (some false) else ((version_Legal.f k a0_2).bind fun t114 => (some t114))))) else (some false))
theorem relation_Formed.mono : ∀ a0 a1 a2 k, LeO (relation_Formed.f k a0 a1 a2) (relation_Formed.f (k + 1) a0 a1 a2) := by
  intro a0 a1 a2 k
  unfold relation_Formed.f
  repeat' first
      | (with_reducible exact relation_Name.mono _ _)
      | (with_reducible exact version_Legal.mono _ _)
      | (with_reducible exact LeO.refl _)
      | (with_reducible exact LeO.none _)
      | (with_reducible refine LeO.ite ?_ ?_)
      | (with_reducible refine LeO.bind ?_ (fun _ => ?_))
      | exact relation_Name.mono _ _
      | exact version_Legal.mono _ _
      | exact LeO.none _
      | refine LeO.ite ?_ ?_
      | refine LeO.bind ?_ (fun _ => ?_)
set_option maxHeartbeats 8000000 in
set_option maxRecDepth 100000 in
theorem relation_Formed.calls (k : Nat) (a0_0 : ByteArray) (a0_1 : Int) (a0_2 : ByteArray) (r : Bool) (w : World) (hG : GG w) (h : relation_Formed.f k a0_0 a0_1 a0_2 = some r) :
    Calls Tryd.prog 26 #[.agg #[.string a0_0, .int .i64 a0_1, .string a0_2]] w fun e w' => e = .returned (.bool r) ∧ Below w.heap.size w w' := by
  have hu46 := Tryd.underlying46
  have HB := Aside0.mk (Below.refl w.heap.size w)
  have HG := Aside0.mk hG
  clear hG
  have H : ((relation_Name.f k a0_0).bind fun t112 => (if t112 = true then (if a0_1 = 0 then (some (a0_2.toList == ([] : List UInt8))) else ((relation_word.f a0_1).bind fun t113 => (if t113.toList = ([] : List UInt8) then (some false) else ((version_Legal.f k a0_2).bind fun t114 => (some t114))))) else (some false))) = some r := h
  clear h
  replace H := Option.bind_eq_some_iff.mp H
  obtain ⟨t112, A20, H⟩ := H
  replace H : (if t112 = true then (if a0_1 = 0 then (some (a0_2.toList == ([] : List UInt8))) else ((relation_word.f a0_1).bind fun t113 => (if t113.toList = ([] : List UInt8) then (some false) else ((version_Legal.f k a0_2).bind fun t114 => (some t114))))) else (some false)) = some r := H
  have A2 := Aside0.mk A20
  clear A20
  by_cases c3 : t112 = true
  · subst c3
    have H1 : (if a0_1 = 0 then (some (a0_2.toList == ([] : List UInt8))) else ((relation_word.f a0_1).bind fun t113 => (if t113.toList = ([] : List UInt8) then (some false) else ((version_Legal.f k a0_2).bind fun t114 => (some t114))))) = some r := by rw [if_pos rfl] at H; exact H
    clear H
    have H := H1
    clear H1
    by_cases c4 : a0_1 = 0
    · rw [if_pos c4] at H
      have c4b0 : (a0_1 == 0) = true := beq_iff_eq.mpr c4
      have c4b1 : (a0_1 != 0) = false := bne_eq_false_iff_eq.mpr c4
      clear c4
      obtain rfl := Option.some.inj H
      go_enter Tryd.func26, Tryd.ntmps26
      go_wp2_with (first | ((with_reducible refine gate_dst (N := 1) rfl ?_); refine box_event ?hg (N := 1) ?hd (cs := #[.string a0_0, .int .i64 a0_1, .string a0_2]) (t := 46) ?hr ?_; (case hd => rfl); (case hg => rfl); (case hr => first | (go_simp; done) | (go_simp; rfl)); intro gb111 hg w5 hbox hb; have n0_ := Aside0.mk (below_step (by repeat (first | (with_reducible first | exact HB.out | apply below_alloc | apply pw_below_drewN | apply below_drew1) | exact HB.out)) hb); have n1_ := Aside0.mk (hbox); have n2_ := Aside0.mk ((by rw [hg]; exact (below_size (by repeat (first | (with_reducible first | exact HB.out | apply below_alloc | apply pw_below_drewN | apply below_drew1) | exact HB.out))) : w.heap.size ≤ gb111)); have n3_ := Aside0.mk ((by rw [hg]; exact (below_size (by repeat (first | (with_reducible first | exact HB.out | apply below_alloc | apply pw_below_drewN | apply below_drew1) | exact HB.out))) : w.heap.size ≤ gb111)); clear HB; have HB := n0_; have BK111 := n1_; have GW111 := n2_; have GE111 := n3_; clear n0_ n1_ n2_ n3_; clear hb hbox hg; have hcz6_0 : w5.cell? ⟨gb111, 0, none⟩ = some (.string a0_0) := (blk_cell BK111.out 0).trans rfl; have hcz6_1 : w5.cell? ⟨gb111, 1, none⟩ = some (.int .i64 a0_1) := (blk_cell BK111.out 1).trans rfl; have hcz6_2 : w5.cell? ⟨gb111, 2, none⟩ = some (.string a0_2) := (blk_cell BK111.out 2).trans rfl; have hfz6_0 := blk_frozen BK111.out 0; have hfz6_1 := blk_frozen BK111.out 1; have hfz6_2 := blk_frozen BK111.out 2) | ((with_reducible refine gate_callee (f := 48) rfl ?_); refine goesL_ (some 5) rfl rfl Tryd.func48 (by kernel_rfl) rfl #[.string a0_0] rfl (by (try simp only [List.map_toArray, List.map_cons, List.map_nil]); first | done | rfl | (simp only [List.length_drop, List.length_take]; rfl)) ?_; (with_reducible refine (relation_Name.calls k a0_0 true _ A2.out).mono ?_); rintro e w' ⟨rfl, ⟨nd, rfl⟩⟩; refine ⟨_, rfl, ?_⟩))
      go_ret
      exact ⟨by first | rfl | (simp [errW_none, errW_some] <;> rfl) | (simp [*, errW_none, errW_some] <;> rfl) | (simp [errW_none, errW_some, Go.Proofs.YtmocooihkobdjaaDoor.listNe]; done), by repeat (first | (with_reducible first | exact HB.out | apply below_alloc | apply pw_below_drewN | apply below_drew1 | refine below_set ?_ GE111.out) | exact HB.out)⟩
    · rw [if_neg c4] at H
      have c4b0 : (a0_1 == 0) = false := beq_eq_false_iff_ne.mpr c4
      have c4b1 : (a0_1 != 0) = true := bne_iff_ne.mpr c4
      replace H := Option.bind_eq_some_iff.mp H
      obtain ⟨t113, A70, H⟩ := H
      replace H : (if t113.toList = ([] : List UInt8) then (some false) else ((version_Legal.f k a0_2).bind fun t114 => (some t114))) = some r := H
      have A7 := Aside0.mk A70
      clear A70
      by_cases c8 : t113.toList = ([] : List UInt8)
      · rw [if_pos c8] at H
        have c8b0 : (t113.toList == ([] : List UInt8)) = true := beq_iff_eq.mpr c8
        have c8b1 : (t113.toList != ([] : List UInt8)) = false := bne_eq_false_iff_eq.mpr c8
        clear c8
        obtain rfl := Option.some.inj H
        go_enter Tryd.func26, Tryd.ntmps26
        go_wp2_with (first | ((with_reducible refine gate_dst (N := 1) rfl ?_); refine box_event ?hg (N := 1) ?hd (cs := #[.string a0_0, .int .i64 a0_1, .string a0_2]) (t := 46) ?hr ?_; (case hd => rfl); (case hg => rfl); (case hr => first | (go_simp; done) | (go_simp; rfl)); intro gb111 hg w9 hbox hb; have n0_ := Aside0.mk (below_step (by repeat (first | (with_reducible first | exact HB.out | apply below_alloc | apply pw_below_drewN | apply below_drew1) | exact HB.out)) hb); have n1_ := Aside0.mk (hbox); have n2_ := Aside0.mk ((by rw [hg]; exact (below_size (by repeat (first | (with_reducible first | exact HB.out | apply below_alloc | apply pw_below_drewN | apply below_drew1) | exact HB.out))) : w.heap.size ≤ gb111)); have n3_ := Aside0.mk ((by rw [hg]; exact (below_size (by repeat (first | (with_reducible first | exact HB.out | apply below_alloc | apply pw_below_drewN | apply below_drew1) | exact HB.out))) : w.heap.size ≤ gb111)); clear HB; have HB := n0_; have BK111 := n1_; have GW111 := n2_; have GE111 := n3_; clear n0_ n1_ n2_ n3_; clear hb hbox hg; have hcz10_0 : w9.cell? ⟨gb111, 0, none⟩ = some (.string a0_0) := (blk_cell BK111.out 0).trans rfl; have hcz10_1 : w9.cell? ⟨gb111, 1, none⟩ = some (.int .i64 a0_1) := (blk_cell BK111.out 1).trans rfl; have hcz10_2 : w9.cell? ⟨gb111, 2, none⟩ = some (.string a0_2) := (blk_cell BK111.out 2).trans rfl; have hfz10_0 := blk_frozen BK111.out 0; have hfz10_1 := blk_frozen BK111.out 1; have hfz10_2 := blk_frozen BK111.out 2) | ((with_reducible refine gate_callee (f := 48) rfl ?_); refine goesL_ (some 5) rfl rfl Tryd.func48 (by kernel_rfl) rfl #[.string a0_0] rfl (by (try simp only [List.map_toArray, List.map_cons, List.map_nil]); first | done | rfl | (simp only [List.length_drop, List.length_take]; rfl)) ?_; (with_reducible refine (relation_Name.calls k a0_0 true _ A2.out).mono ?_); rintro e w' ⟨rfl, ⟨nd, rfl⟩⟩; refine ⟨_, rfl, ?_⟩) | ((with_reducible refine gate_callee (f := 49) rfl ?_); refine goesL_ (some 15) rfl rfl Tryd.func49 (by kernel_rfl) rfl #[.int .i64 a0_1] rfl (by (try simp only [List.map_toArray, List.map_cons, List.map_nil]); first | done | rfl | (simp only [List.length_drop, List.length_take]; rfl)) ?_; (with_reducible refine (relation_word.calls a0_1 t113 _ ?side1 A7.out).mono ?_); (case side1 => exact GG.below HG.out (by repeat (first | (with_reducible first | exact HB.out | apply below_alloc | apply pw_below_drewN | apply below_drew1 | refine below_set ?_ GE111.out) | exact HB.out))); rintro e w11 ⟨rfl, hb⟩; refine ⟨_, rfl, ?_⟩; have n0_ := Aside0.mk (blk_below (g := gb111) (o := .cells #[.string a0_0, .int .i64 a0_1, .string a0_2] 46 (0, 0)) (by (with_reducible repeat (first | refine blk_drewN ?_ _ | refine blk_drew ?_ | refine blk_alloc ?_ _)); exact BK111.out) hb); have n1_ := Aside0.mk (below_step (by repeat (first | (with_reducible first | exact HB.out | apply below_alloc | apply pw_below_drewN | apply below_drew1 | refine below_set ?_ GE111.out) | exact HB.out)) hb); clear BK111; clear HB; have BK111 := n0_; have HB := n1_; clear n0_ n1_; (try clear hb); (try clear hb2); (try clear hk); (try clear hi)))
        go_ret
        exact ⟨by first | rfl | (simp [errW_none, errW_some] <;> rfl) | (simp [*, errW_none, errW_some] <;> rfl) | (simp [errW_none, errW_some, Go.Proofs.YtmocooihkobdjaaDoor.listNe]; done), by repeat (first | (with_reducible first | exact HB.out | apply below_alloc | apply pw_below_drewN | apply below_drew1 | refine below_set ?_ GE111.out) | exact HB.out)⟩
      · rw [if_neg c8] at H
        have c8b0 : (t113.toList == ([] : List UInt8)) = false := beq_eq_false_iff_ne.mpr c8
        have c8b1 : (t113.toList != ([] : List UInt8)) = true := bne_iff_ne.mpr c8
        replace H := Option.bind_eq_some_iff.mp H
        obtain ⟨t114, A120, H⟩ := H
        replace H : (some t114) = some r := H
        have A12 := Aside0.mk A120
        clear A120
        obtain rfl := Option.some.inj H
        go_enter Tryd.func26, Tryd.ntmps26
        go_wp2_with (first | ((with_reducible refine gate_dst (N := 1) rfl ?_); refine box_event ?hg (N := 1) ?hd (cs := #[.string a0_0, .int .i64 a0_1, .string a0_2]) (t := 46) ?hr ?_; (case hd => rfl); (case hg => rfl); (case hr => first | (go_simp; done) | (go_simp; rfl)); intro gb111 hg w13 hbox hb; have n0_ := Aside0.mk (below_step (by repeat (first | (with_reducible first | exact HB.out | apply below_alloc | apply pw_below_drewN | apply below_drew1) | exact HB.out)) hb); have n1_ := Aside0.mk (hbox); have n2_ := Aside0.mk ((by rw [hg]; exact (below_size (by repeat (first | (with_reducible first | exact HB.out | apply below_alloc | apply pw_below_drewN | apply below_drew1) | exact HB.out))) : w.heap.size ≤ gb111)); have n3_ := Aside0.mk ((by rw [hg]; exact (below_size (by repeat (first | (with_reducible first | exact HB.out | apply below_alloc | apply pw_below_drewN | apply below_drew1) | exact HB.out))) : w.heap.size ≤ gb111)); clear HB; have HB := n0_; have BK111 := n1_; have GW111 := n2_; have GE111 := n3_; clear n0_ n1_ n2_ n3_; clear hb hbox hg; have hcz14_0 : w13.cell? ⟨gb111, 0, none⟩ = some (.string a0_0) := (blk_cell BK111.out 0).trans rfl; have hcz14_1 : w13.cell? ⟨gb111, 1, none⟩ = some (.int .i64 a0_1) := (blk_cell BK111.out 1).trans rfl; have hcz14_2 : w13.cell? ⟨gb111, 2, none⟩ = some (.string a0_2) := (blk_cell BK111.out 2).trans rfl; have hfz14_0 := blk_frozen BK111.out 0; have hfz14_1 := blk_frozen BK111.out 1; have hfz14_2 := blk_frozen BK111.out 2) | ((with_reducible refine gate_callee (f := 48) rfl ?_); refine goesL_ (some 5) rfl rfl Tryd.func48 (by kernel_rfl) rfl #[.string a0_0] rfl (by (try simp only [List.map_toArray, List.map_cons, List.map_nil]); first | done | rfl | (simp only [List.length_drop, List.length_take]; rfl)) ?_; (with_reducible refine (relation_Name.calls k a0_0 true _ A2.out).mono ?_); rintro e w' ⟨rfl, ⟨nd, rfl⟩⟩; refine ⟨_, rfl, ?_⟩) | ((with_reducible refine gate_callee (f := 49) rfl ?_); refine goesL_ (some 15) rfl rfl Tryd.func49 (by kernel_rfl) rfl #[.int .i64 a0_1] rfl (by (try simp only [List.map_toArray, List.map_cons, List.map_nil]); first | done | rfl | (simp only [List.length_drop, List.length_take]; rfl)) ?_; (with_reducible refine (relation_word.calls a0_1 t113 _ ?side1 A7.out).mono ?_); (case side1 => exact GG.below HG.out (by repeat (first | (with_reducible first | exact HB.out | apply below_alloc | apply pw_below_drewN | apply below_drew1 | refine below_set ?_ GE111.out) | exact HB.out))); rintro e w15 ⟨rfl, hb⟩; refine ⟨_, rfl, ?_⟩; have n0_ := Aside0.mk (blk_below (g := gb111) (o := .cells #[.string a0_0, .int .i64 a0_1, .string a0_2] 46 (0, 0)) (by (with_reducible repeat (first | refine blk_drewN ?_ _ | refine blk_drew ?_ | refine blk_alloc ?_ _)); exact BK111.out) hb); have n1_ := Aside0.mk (below_step (by repeat (first | (with_reducible first | exact HB.out | apply below_alloc | apply pw_below_drewN | apply below_drew1 | refine below_set ?_ GE111.out) | exact HB.out)) hb); clear BK111; clear HB; have BK111 := n0_; have HB := n1_; clear n0_ n1_; (try clear hb); (try clear hb2); (try clear hk); (try clear hi); have hcz16_0 : w15.cell? ⟨gb111, 0, none⟩ = some (.string a0_0) := (blk_cell BK111.out 0).trans rfl; have hcz16_1 : w15.cell? ⟨gb111, 1, none⟩ = some (.int .i64 a0_1) := (blk_cell BK111.out 1).trans rfl; have hcz16_2 : w15.cell? ⟨gb111, 2, none⟩ = some (.string a0_2) := (blk_cell BK111.out 2).trans rfl; have hfz16_0 := blk_frozen BK111.out 0; have hfz16_1 := blk_frozen BK111.out 1; have hfz16_2 := blk_frozen BK111.out 2) | (go_at_call 50; (with_reducible refine (version_Legal.calls k a0_2 t114 _ A12.out).mono ?_); rintro e w17 ⟨rfl, hb⟩; have n0_ := Aside0.mk (blk_below (g := gb111) (o := .cells #[.string a0_0, .int .i64 a0_1, .string a0_2] 46 (0, 0)) (by (with_reducible repeat (first | refine blk_drewN ?_ _ | refine blk_drew ?_ | refine blk_alloc ?_ _)); exact BK111.out) hb); have n1_ := Aside0.mk (below_step (by repeat (first | (with_reducible first | exact HB.out | apply below_alloc | apply pw_below_drewN | apply below_drew1 | refine below_set ?_ GE111.out) | exact HB.out)) hb); clear BK111; clear HB; have BK111 := n0_; have HB := n1_; clear n0_ n1_; (try clear hb); (try clear hb2); (try clear hk); (try clear hi)))
        go_ret
        exact ⟨by first | rfl | (simp [errW_none, errW_some] <;> rfl) | (simp [*, errW_none, errW_some] <;> rfl) | (simp [errW_none, errW_some, Go.Proofs.YtmocooihkobdjaaDoor.listNe]; done), by repeat (first | (with_reducible first | exact HB.out | apply below_alloc | apply pw_below_drewN | apply below_drew1 | refine below_set ?_ GE111.out) | exact HB.out)⟩
  · replace c3 := Bool.eq_false_iff.mpr c3
    subst c3
    have H1 : (some false) = some r := by rw [if_neg (show ¬ (false = true) by decide)] at H; exact H
    clear H
    have H := H1
    clear H1
    obtain rfl := Option.some.inj H
    go_enter Tryd.func26, Tryd.ntmps26
    go_wp2_with (first | ((with_reducible refine gate_dst (N := 1) rfl ?_); refine box_event ?hg (N := 1) ?hd (cs := #[.string a0_0, .int .i64 a0_1, .string a0_2]) (t := 46) ?hr ?_; (case hd => rfl); (case hg => rfl); (case hr => first | (go_simp; done) | (go_simp; rfl)); intro gb111 hg w18 hbox hb; have n0_ := Aside0.mk (below_step (by repeat (first | (with_reducible first | exact HB.out | apply below_alloc | apply pw_below_drewN | apply below_drew1) | exact HB.out)) hb); have n1_ := Aside0.mk (hbox); have n2_ := Aside0.mk ((by rw [hg]; exact (below_size (by repeat (first | (with_reducible first | exact HB.out | apply below_alloc | apply pw_below_drewN | apply below_drew1) | exact HB.out))) : w.heap.size ≤ gb111)); have n3_ := Aside0.mk ((by rw [hg]; exact (below_size (by repeat (first | (with_reducible first | exact HB.out | apply below_alloc | apply pw_below_drewN | apply below_drew1) | exact HB.out))) : w.heap.size ≤ gb111)); clear HB; have HB := n0_; have BK111 := n1_; have GW111 := n2_; have GE111 := n3_; clear n0_ n1_ n2_ n3_; clear hb hbox hg; have hcz19_0 : w18.cell? ⟨gb111, 0, none⟩ = some (.string a0_0) := (blk_cell BK111.out 0).trans rfl; have hcz19_1 : w18.cell? ⟨gb111, 1, none⟩ = some (.int .i64 a0_1) := (blk_cell BK111.out 1).trans rfl; have hcz19_2 : w18.cell? ⟨gb111, 2, none⟩ = some (.string a0_2) := (blk_cell BK111.out 2).trans rfl; have hfz19_0 := blk_frozen BK111.out 0; have hfz19_1 := blk_frozen BK111.out 1; have hfz19_2 := blk_frozen BK111.out 2) | ((with_reducible refine gate_callee (f := 48) rfl ?_); refine goesL_ (some 5) rfl rfl Tryd.func48 (by kernel_rfl) rfl #[.string a0_0] rfl (by (try simp only [List.map_toArray, List.map_cons, List.map_nil]); first | done | rfl | (simp only [List.length_drop, List.length_take]; rfl)) ?_; (with_reducible refine (relation_Name.calls k a0_0 false _ A2.out).mono ?_); rintro e w' ⟨rfl, ⟨nd, rfl⟩⟩; refine ⟨_, rfl, ?_⟩))
    go_ret
    exact ⟨by first | rfl | (simp [errW_none, errW_some] <;> rfl) | (simp [*, errW_none, errW_some] <;> rfl) | (simp [errW_none, errW_some, Go.Proofs.YtmocooihkobdjaaDoor.listNe]; done), by repeat (first | (with_reducible first | exact HB.out | apply below_alloc | apply pw_below_drewN | apply below_drew1 | refine below_set ?_ GE111.out) | exact HB.out)⟩

/-! ### api_Rel_24: function 24 -/
/-- Is one of the relations not well shaped? -/
def api_Rel_24.l0 (k : Nat) : List (S46) → Option Bool
  | [] => some false
  | x :: l => (relation_Formed.f k x.f0 x.f1 x.f2).bind fun t => if t = true then api_Rel_24.l0 k l else some true
def api_Rel_24.f (k : Nat) (l0 : List (S46)) : Option (Bool) := api_Rel_24.l0 k l0
theorem api_Rel_24.mono : ∀ a0 k, LeO (api_Rel_24.f k a0) (api_Rel_24.f (k + 1) a0) := by
  intro a0 k
  unfold api_Rel_24.f
  induction a0 with
  | nil => exact LeO.refl _
  | cons x l ih =>
    unfold api_Rel_24.l0
    refine LeO.bind (relation_Formed.mono _ _ _ _) (fun t => ?_)
    refine LeO.ite ih (LeO.refl _)
set_option maxHeartbeats 4000000 in
set_option maxRecDepth 100000 in
/-- The function literal. -/
theorem api_Rel_24.pred (k : Nat) (x : S46) (t : Bool) (W : World) (hG : GG W) (h : relation_Formed.f k x.f0 x.f1 x.f2 = some t) :
    Calls Tryd.prog 25 #[.agg #[.string x.f0, .int .i64 x.f1, .string x.f2]] W fun e W' => e = .returned (.bool (!t)) ∧ Below W.heap.size W W' := by
  obtain ⟨a, b, c⟩ := x
  have huR := Tryd.underlying46
  have HH := Lib.hid h; have HG := Lib.hid hG
  clear h hG
  go_enter Tryd.func25, Tryd.ntmps25
  go_wp2_with (go_at_call 26; refine (relation_Formed.calls k _ _ _ t _ (by first | exact GG.below HG.out ((Below.refl _ _).alloc (Nat.le_refl _) _) | exact GG.below HG.out (Below.refl _ _) | exact GG.below HG.out (pw_below_drewN ((Below.refl _ _).alloc (Nat.le_refl _) _) _)) HH.out).mono ?_; rintro e w' ⟨rfl, hb⟩; have Hb := Lib.hid hb; clear hb)
  go_ret
  exact ⟨rfl, by first | exact ((Below.refl _ W).alloc (Nat.le_refl _) _).trans (Hb.out.mono (by simp)) | exact Hb.out | exact (pw_below_drewN ((Below.refl _ W).alloc (Nat.le_refl _) _) _).trans (Hb.out.mono (by simp))⟩
/-- What IndexFunc comes to: some place, or -1. -/
def api_Rel_24.Post (r : Bool) (w : World) (e : Ending) (w' : World) : Prop := ∃ z : Int, e = .returned (.int .i64 z) ∧ decide (0 ≤ z) = r ∧ Below w.heap.size w w'
set_option maxHeartbeats 8000000 in
set_option maxRecDepth 100000 in
theorem api_Rel_24.idx (k : Nat) (A0 : Option Addr) (c0 : Nat) (l0 : List (S46)) (r : Bool) (w : World) (hr0 : Kd.C k46 w A0 l0.length l0) (hc0 : l0.length ≤ c0) (hG : GG w) (h : api_Rel_24.f k l0 = some r) :
    Calls Tryd.prog 47 #[.slice A0 l0.length c0, .func (.func 25) #[] #[]] w (api_Rel_24.Post r w) := by
  have eg : ∀ args w, (callFunc 25 args).run Tryd.prog w = .ok (.enter 25 args) w := enters_of Tryd.func25 (by kernel_rfl) rfl
  have huR := Tryd.underlying46
  have huS := Tryd.underlying23
  have HR0 := Aside0.mk hr0
  have HC0 := Aside0.mk hc0
  have HG := Aside0.mk hG
  have hlen := hr0.2.1
  clear hr0 hc0 hG
  have H' := Aside0.mk (show api_Rel_24.l0 k (l0.drop 0) = some r from h)
  clear h
  go_enter Tryd.func47, Tryd.ntmps47
  go_wp2
  go_loopg [5, 8] l0.length (fun gg _ s8 wr => ∃ x : Int, s8 = .int .i64 x ∧ 0 ≤ x ∧ x ≤ l0.length ∧ l0.length - x.toNat ≤ gg ∧ Aside0 (Below w.heap.size w wr) ∧ Aside0 (api_Rel_24.l0 k (l0.drop x.toNat) = some r))
  case atStart => exact ⟨0, rfl, Int.le_refl _, by omega, by omega, ⟨Below.refl _ _⟩, ⟨H'.out⟩⟩
  case round =>
    obtain ⟨x, rfl, x0, x1, hg, HB, HA⟩ := hrel
    clear H'
    by_cases hlt : x < (l0.length : Int)
    · have hltb : decide (x < (l0.length : Int)) = true := decide_eq_true hlt
      have hxn : x.toNat < l0.length := by omega
      have hdr : l0.drop x.toNat = rd_T46 l0 x :: l0.drop (x.toNat + 1) := by
        rw [List.drop_eq_getElem_cons hxn]
        congr 1
        unfold rd_T46
        rw [List.getD_eq_getElem?_getD, List.getElem?_eq_getElem hxn, Option.getD_some]
      have H := HA.out
      rw [hdr] at H
      unfold api_Rel_24.l0 at H
      replace H := Option.bind_eq_some_iff.mp H
      obtain ⟨t, ht, H⟩ := H
      have HT := Aside0.mk ht
      have HH := Aside0.mk H
      have Hx := Aside0.mk (show x.toNat + 1 = (wrap64 (x + 1)).toNat ∧ 0 ≤ wrap64 (x + 1) ∧ wrap64 (x + 1) ≤ l0.length by
        have : wrap64 (x + 1) = x + 1 := by unfold wrap64; omega
        rw [this]
        omega)
      obtain ⟨ad, ead, hx0, hx1, hx2⟩ := at_T46 HR0.out x x0 hlt
      cases ead
      replace hx0 := (HB.out.cell (World.block_lt_of_cell? w _ hx0)).trans hx0
      replace hx1 := (HB.out.cell (World.block_lt_of_cell? w _ hx1)).trans hx1
      replace hx2 := (HB.out.cell (World.block_lt_of_cell? w _ hx2)).trans hx2
      have hcall := api_Rel_24.pred k (rd_T46 l0 x) t wr (GG.below HG.out HB.out) HT.out
      have Hg := Aside0.mk hg
      have X1 := Aside0.mk x1
      clear hdr H HA ht hxn x1 hg hlen
      have p0 := eq_true x0
      have p1 := eq_true hlt
      have p2 : decide (0 ≤ x) = true := decide_eq_true x0
      cases t with
      | false =>
        have hr : r = true := by
          have := HH.out
          simpa using this.symm
        subst hr
        go_wp2_with (first | (go_at_fn 25; refine hcall.mono ?_; rintro e w' ⟨rfl, hb'⟩; have HB2 := Aside0.mk (HB.out.trans (hb'.mono HB.out.size)); clear hb'))
        go_ret
        exact ⟨x, rfl, p2, HB2.out⟩
      | true =>
        have HN := Aside0.mk (show api_Rel_24.l0 k (l0.drop (x.toNat + 1)) = some r by have := HH.out; simpa using this)
        clear HH
        go_wp2_with (first | (go_at_fn 25; refine hcall.mono ?_; rintro e w' ⟨rfl, hb'⟩; have HB2 := Aside0.mk (HB.out.trans (hb'.mono HB.out.size)); clear hb'))
        go_roundg (l0.length - (x.toNat + 1))
        case measure => have := Hg.out; omega
        case rel => exact ⟨wrap64 (x + 1), by first | rfl | simp, Hx.out.2.1, Hx.out.2.2, by have := Hx.out.1; omega, HB2, by rw [← Hx.out.1]; exact HN⟩
    · have hltb : decide (x < (l0.length : Int)) = false := decide_eq_false hlt
      have H := HA.out
      rw [List.drop_of_length_le (by omega)] at H
      have hr : r = false := by simpa [api_Rel_24.l0] using H.symm
      clear H HA
      subst hr
      go_wp2
      go_ret
      exact ⟨-1, rfl, rfl, HB.out⟩
set_option maxHeartbeats 4000000 in
set_option maxRecDepth 100000 in
theorem api_Rel_24.calls (k : Nat) (A0 : Option Addr) (c0 : Nat) (l0 : List (S46)) (r : Bool) (w : World) (hr0 : Kd.C k46 w A0 l0.length l0) (hc0 : l0.length ≤ c0) (hG : GG w) (h : api_Rel_24.f k l0 = some r) :
    Calls Tryd.prog 24 #[.slice A0 l0.length c0, .func (.func 25) #[] #[]] w fun e w' => e = .returned (.bool r) ∧ Below w.heap.size w w' := by
  have hcon := api_Rel_24.idx k A0 c0 l0 r w hr0 hc0 hG h
  clear hr0 hc0 hG h
  go_enter Tryd.func24, Tryd.ntmps24
  go_wp2_with (go_at_call 47; refine hcon.mono ?_; rintro e w' ⟨z, rfl, hz, hb⟩; have Hz := Lib.hid hz; have Hb := Lib.hid hb; clear hz hb)
  go_ret
  exact ⟨by rw [← Hz.out]; rfl, Hb.out⟩


end Go.Proofs.YtmocooihkobdjaaDoor.A
