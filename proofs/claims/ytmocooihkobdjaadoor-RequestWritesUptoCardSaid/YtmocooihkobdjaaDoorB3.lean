-- printed by wip/myprint.py of this session over the kit's print.py; Lean checks it
import Derived.Test.YtmocooihkobdjaaDoorB0
import Derived.Test.YtmocooihkobdjaaDoorB1
import Derived.Test.YtmocooihkobdjaaDoorB2
namespace Go.Proofs.YtmocooihkobdjaaDoor.B
open Go.RowKit Go.Proofs.YtmocooihkobdjaaDoorW.PrintWords Go.Proofs.YtmocooihkobdjaaDoorW.PrintLast Go.Proofs.YtmocooihkobdjaaDoorW.PrintMore
attribute [local go_sem] max2_int min2_int max_two min_two max_three min_three max_four min_four   -- for this text's walks alone
set_option linter.unusedVariables false
set_option linter.unusedSimpArgs false

/-! ### version_parted: function 72 -/
def emptyB : ByteArray := ⟨#[]⟩
def othersOf (colon : Bool) : ByteArray := if colon then ⟨#[46, 43, 45, 126, 58]⟩ else ⟨#[46, 43, 45, 126]⟩
def ok1 (colon minus : Bool) (e up rev : ByteArray) : Bool := (!colon || !e.toList.isEmpty) && (!minus || !rev.toList.isEmpty) && !up.toList.isEmpty && dgt (bt up 0)
theorem two_new (w : World) (o1 o2 : Obj) (n : Nat) : (((w.alloc o1).alloc o2).drewN n).heap[w.heap.size]? = some o1 ∧ (((w.alloc o1).alloc o2).drewN n).heap[w.heap.size + 1]? = some o2 ∧ Below w.heap.size w (((w.alloc o1).alloc o2).drewN n) := by
  refine ⟨blk_drewN (blk_alloc (blk_new w o1) o2) n, blk_drewN ?_ n, pw_below_drewN (below_alloc (below_alloc (Below.refl _ w) o1) o2) n⟩
  have := blk_new (w.alloc o1) o2
  rwa [World.size_alloc] at this
set_option maxHeartbeats 4000000 in
set_option maxRecDepth 1000000 in
/-- The beginning: the parts lie in p; then the test. -/
theorem version_parted.walk (k : Nat) (s e rest up rev c6 c7 : ByteArray) (colon minus : Bool) (m : Int) (a1 a2 a3 : Bool) (w : World)
    (hcut : strings_Cut.f s ⟨#[58]⟩ = some (c6, c7, colon))
    (hyes : colon = true → c6 = e ∧ c7 = rest)
    (hrest : colon = false → rest = s ∧ e = emptyB)
    (hlast : strings_LastIndexByte.f k rest 45 = some m)
    (hm : minus = false → m < 0 ∧ up = rest ∧ rev = emptyB)
    (hm2 : minus = true → 0 ≤ m ∧ m + 1 ≤ rest.size ∧ up = rest.extract 0 m.toNat ∧ rev = rest.extract (m + 1).toNat rest.size)
    (hsz : (rest.size : Int) ≤ 140737488351232)
    (h1 : version_made.f e false emptyB = some a1) (h2 : version_made.f up true (othersOf colon) = some a2) (h3 : version_made.f rev true ⟨#[43, 46, 126]⟩ = some a3) :
    Calls Tryd.prog 72 #[.string s] w fun e' w' => e' = .returned (.tuple #[.agg #[.string e, .string up, .string rev], .bool (ok1 colon minus e up rev && (a1 && (a2 && a3)))]) ∧ Below w.heap.size w w' := by
  have Hcut := Lib.hid hcut; clear hcut
  have Hlast := Lib.hid hlast; clear hlast
  have Hrest := Lib.hid hrest; clear hrest
  have Hyes := Lib.hid hyes; clear hyes
  have Hm := Lib.hid hm; clear hm
  have Hm2 := Lib.hid hm2; clear hm2
  have H1 := Lib.hid h1; clear h1
  have H2 := Lib.hid h2; clear h2
  have H3 := Lib.hid h3; clear h3
  have hu27 := Tryd.underlying108
  go_enter Tryd.func72, Tryd.ntmps72
  go_upto_if 19 with (go_at_call 91; refine (strings_Cut.calls _ _ _ _ _ _ Hcut.out).mono ?_; rintro e' w' ⟨rfl, ⟨nd, rfl⟩⟩)
  go_cut [5] (fun s5 wx => s5 = .string rest ∧ Hid (wx.heap[w.heap.size]? = some (.cells #[.string emptyB, .string emptyB, .string emptyB] 108 (0, 0))) ∧ Hid (wx.heap[w.heap.size + 1]? = some (.cells #[.string e, .string emptyB, .string emptyB] 108 (0, 0))) ∧ Hid (Below w.heap.size w wx))
  case first =>
    cases colon
    · obtain ⟨er, ee⟩ := Hrest.out rfl
      have He := Lib.hid ee; have Her := Lib.hid er
      clear er ee
      go_wp2_with fail
      go_meet
      obtain ⟨q1, q2, q3⟩ := two_new w (.cells #[.string emptyB, .string emptyB, .string emptyB] 108 (0, 0)) (.cells #[.string emptyB, .string emptyB, .string emptyB] 108 (0, 0)) nd
      exact ⟨by rw [Her.out], q1, by rw [He.out]; exact q2, q3⟩
    · obtain ⟨er, ee⟩ := Hyes.out rfl
      have He := Lib.hid er; have Her := Lib.hid ee
      clear er ee
      go_wp2_with fail
      go_meet
      obtain ⟨q1, q2, q3⟩ := two_new w (.cells #[.string emptyB, .string emptyB, .string emptyB] 108 (0, 0)) (.cells #[.string emptyB, .string emptyB, .string emptyB] 108 (0, 0)) nd
      exact ⟨by rw [Her.out], blk_far q1 (by simp) _, blk_put q2 0 _ (by rw [He.out]; rfl), below_set q3 (by simp)⟩
  case rest =>
    obtain ⟨rfl, hR, hP, hB⟩ := hcut
    have hc1 := blk_cell hP.out 1
    have hz1 := blk_frozen hP.out 1
    simp only [List.getElem?_toArray, List.getElem?_cons_succ, List.getElem?_cons_zero] at hc1
    go_upto_region 7 with fail
    clear hc1 hz1
    go_cut [9] (fun s9 wx => s9 = .int .i64 m ∧ Hid (wx.heap[w.heap.size]? = some (.cells #[.string emptyB, .string emptyB, .string emptyB] 108 (0, 0))) ∧ Hid (wx.heap[w.heap.size + 1]? = some (.cells #[.string e, .string rest, .string emptyB] 108 (0, 0))) ∧ Hid (Below w.heap.size w wx))
    case first =>
      go_wp2_with (go_at_call 92; refine (strings_LastIndexByte.calls _ _ _ _ _ Hlast.out).mono ?_; rintro e' w' ⟨rfl, ⟨nd2, rfl⟩⟩)
      go_meet
      exact ⟨rfl, blk_drewN (blk_far hR.out (by simp) _) _, blk_drewN (blk_put hP.out 1 _ rfl) _, pw_below_drewN (below_set hB.out (by simp)) _⟩
    case rest =>
      obtain ⟨rfl, hR, hP, hB⟩ := hcut
      have Hge : Hid (minus = decide (0 ≤ m)) := by
        cases minus
        · have := (Hm.out rfl).1
          exact (decide_eq_false (by omega)).symm
        · have := (Hm2.out rfl).1
          exact (decide_eq_true (by omega)).symm
      go_upto_if 28 with fail
      go_cut [] (fun wx => Hid (wx.heap[w.heap.size]? = some (.cells #[.string emptyB, .string emptyB, .string emptyB] 108 (0, 0))) ∧ Hid (wx.heap[w.heap.size + 1]? = some (.cells #[.string e, .string up, .string rev] 108 (0, 0))) ∧ Hid (Below w.heap.size w wx))
      case first =>
        cases minus
        · obtain ⟨m1, m2, m3⟩ := Hm.out rfl
          have M2 := Lib.hid m2; have M3 := Lib.hid m3
          clear m2 m3
          have hd : decide (0 ≤ m) = false := decide_eq_false (by omega)
          go_wp2_with fail
          go_meet
          exact ⟨hR.out, by rw [M2.out, M3.out]; exact hP.out, hB.out⟩
        · obtain ⟨m0, m1, m2, m3⟩ := Hm2.out rfl
          have M2 := Lib.hid m2; have M3 := Lib.hid m3
          clear m2 m3
          have hd : decide (0 ≤ m) = true := decide_eq_true (by omega)
          have hz1 := blk_frozen hP.out 1
          have hz2 := blk_frozen hP.out 2
          have hc1 := blk_cell hP.out 1
          have hc2 := blk_cell hP.out 2
          simp only [List.getElem?_toArray, List.getElem?_cons_succ, List.getElem?_cons_zero] at hc1 hc2
          go_wp2_with fail
          go_region
          all_goals (go_wp2_with fail)
          all_goals go_meet
          all_goals exact ⟨blk_drew (blk_far (blk_far hR.out (by simp) _) (by simp) _), by rw [M2.out, M3.out]; exact blk_drew (blk_put (blk_put hP.out 1 _ rfl) 2 _ rfl), below_drew (below_set (below_set hB.out (by simp)) (by simp))⟩
      case rest =>
        obtain ⟨hR, hP, hB⟩ := hcut
        go_upto_if 38 with fail
        go_cut [10] (fun s10 wx => s10 = .string (othersOf colon) ∧ Hid (wx.heap[w.heap.size]? = some (.cells #[.string emptyB, .string emptyB, .string emptyB] 108 (0, 0))) ∧ Hid (wx.heap[w.heap.size + 1]? = some (.cells #[.string e, .string up, .string rev] 108 (0, 0))) ∧ Hid (Below w.heap.size w wx))
        case first =>
          cases colon
          all_goals
            go_wp2_with fail
            go_meet
            exact ⟨rfl, hR.out, hP.out, hB.out⟩
        case rest =>
          obtain ⟨rfl, hR, hP, hB⟩ := hcut
          go_upto_region 13 with fail
          go_cut [11] (fun s11 wx => s11 = .bool (ok1 colon minus e up rev) ∧ Hid (wx.heap[w.heap.size]? = some (.cells #[.string emptyB, .string emptyB, .string emptyB] 108 (0, 0))) ∧ Hid (wx.heap[w.heap.size + 1]? = some (.cells #[.string e, .string up, .string rev] 108 (0, 0))) ∧ Hid (Below w.heap.size w wx))
          case first =>
            have hc1 := blk_cell hP.out 1
            have hc2 := blk_cell hP.out 2
            simp only [List.getElem?_toArray, List.getElem?_cons_succ, List.getElem?_cons_zero] at hc1 hc2
            have hlt : decide (m < 0) = !minus := by
              rw [Hge.out, ← decide_not]
              simp only [decide_eq_decide]
              omega
            obtain ⟨be, hbe⟩ : ∃ b, c6.toList.isEmpty = b := ⟨_, rfl⟩
            obtain ⟨br, hbr⟩ : ∃ b, rev.toList.isEmpty = b := ⟨_, rfl⟩
            obtain ⟨bu, hbu⟩ : ∃ b, up.toList.isEmpty = b := ⟨_, rfl⟩
            have Hok : Hid (ok1 colon minus e up rev = ((!colon || !be) && (!minus || !br) && !bu && dgt (bt up 0))) := by
              unfold ok1
              rw [hbr, hbu]
              cases colon
              · rfl
              · rw [← (Hyes.out rfl).1, hbe]; rfl
            obtain ⟨dg, Hdg⟩ : ∃ d, Hid (dgt (bt up 0) = d) := ⟨_, rfl⟩
            have Hok2 := Lib.hid (Hok.out.trans (congrArg _ Hdg.out))
            have Hdgf := Lib.hid ((dgt_f (bt up 0)).trans (congrArg some Hdg.out))
            clear Hok
            cases bu with
            | true =>
              cases colon <;> cases minus <;> cases be <;> cases br
              all_goals (go_wp2_with fail)
              all_goals go_meet
              all_goals exact ⟨by rw [Hok2.out]; simp, hR.out, hP.out, hB.out⟩
            | false =>
              have hu0 : 0 < up.size := by
                cases h : up.size with
                | zero =>
                  have e0 : up.toList = [] := by
                    rw [Lib.toList_data]
                    exact List.eq_nil_of_length_eq_zero (by simpa using h)
                  rw [e0] at hbu
                  cases hbu
                | succ n => omega
              have hu1 : (0 : Int) < (up.size : Int) := by omega
              have hw32 : wrap32 (((up[0]'hu0).toNat : Nat) : Int) = bt up 0 := by
                have h255 := (up[0]'hu0).toNat_lt
                rw [show bt up 0 = (((up[0]'hu0).toNat : Nat) : Int) from (bt_at up 0 hu0).symm]
                unfold wrap32
                omega
              cases colon <;> cases minus <;> cases be <;> cases br
              all_goals (go_wp2_with (go_at_call 93; refine (version_isDigit.calls _ _ _ Hdgf.out).mono ?_; rintro e' w' ⟨rfl, ⟨nd3, rfl⟩⟩))
              all_goals go_meet
              all_goals exact ⟨by rw [Hok2.out]; simp, hR.out, hP.out, by first | exact hB.out | exact pw_below_drewN hB.out _⟩
          case rest =>
            obtain ⟨rfl, hR, hP, hB⟩ := hcut
            have hc0 := blk_cell hP.out 0
            have hc1 := blk_cell hP.out 1
            have hc2 := blk_cell hP.out 2
            have hr0 := blk_cell hR.out 0
            have hr1 := blk_cell hR.out 1
            have hr2 := blk_cell hR.out 2
            have hz0 := blk_frozen hR.out 0
            have hz1 := blk_frozen hR.out 1
            have hz2 := blk_frozen hR.out 2
            simp only [List.getElem?_toArray, List.getElem?_cons_succ, List.getElem?_cons_zero] at hc0 hc1 hc2 hr0 hr1 hr2
            cases ho : ok1 colon minus e up rev
            · have Ho := Lib.hid ho
              clear ho
              go_wp2_with fail
              refine bodyPost_ret (results_ct rfl _ _ w.heap.size 108 #[.string e, .string up, .string rev] (0, 0) _ rfl (blk_put (blk_put (blk_put hR.out 0 _ rfl) 1 _ rfl) 2 _ rfl) Tryd.underlying108 rfl rfl) rfl ⟨by rw [Ho.out]; rfl, below_set (below_set (below_set hB.out (Nat.le_refl _)) (Nat.le_refl _)) (Nat.le_refl _)⟩
            · have Ho := Lib.hid ho
              clear ho
              cases a1 with
              | false =>
                go_wp2_with fail
                refine (version_made.calls _ _ _ _ _ H1.out).mono ?_
                rintro e' w1 ⟨rfl, hb⟩
                have hR1 := Lib.hid (blk_below hR.out hb)
                have hP1 := Lib.hid (blk_below hP.out hb)
                have hB1 := Lib.hid (below_then hB.out (below_size hB.out) hb)
                clear hb hc0 hc1 hc2 hr0 hr1 hr2 hz0 hz1 hz2
                have hc0 := blk_cell hP1.out 0
                have hc1 := blk_cell hP1.out 1
                have hc2 := blk_cell hP1.out 2
                have hr0 := blk_cell hR1.out 0
                have hr1 := blk_cell hR1.out 1
                have hr2 := blk_cell hR1.out 2
                have hz0 := blk_frozen hR1.out 0
                have hz1 := blk_frozen hR1.out 1
                have hz2 := blk_frozen hR1.out 2
                simp only [List.getElem?_toArray, List.getElem?_cons_succ, List.getElem?_cons_zero] at hc0 hc1 hc2 hr0 hr1 hr2
                go_wp2_with fail
                refine bodyPost_ret (results_ct rfl _ _ w.heap.size 108 #[.string e, .string up, .string rev] (0, 0) _ rfl (blk_put (blk_put (blk_put hR1.out 0 _ rfl) 1 _ rfl) 2 _ rfl) Tryd.underlying108 rfl rfl) rfl ⟨by rw [Ho.out]; rfl, below_set (below_set (below_set hB1.out (Nat.le_refl _)) (Nat.le_refl _)) (Nat.le_refl _)⟩
              | true =>
                go_wp2_with fail
                refine (version_made.calls _ _ _ _ _ H1.out).mono ?_
                rintro e' w1 ⟨rfl, hb⟩
                have hR1 := Lib.hid (blk_below hR.out hb)
                have hP1 := Lib.hid (blk_below hP.out hb)
                have hB1 := Lib.hid (below_then hB.out (below_size hB.out) hb)
                clear hb hc0 hc1 hc2 hr0 hr1 hr2 hz0 hz1 hz2
                have hc0 := blk_cell hP1.out 0
                have hc1 := blk_cell hP1.out 1
                have hc2 := blk_cell hP1.out 2
                have hr0 := blk_cell hR1.out 0
                have hr1 := blk_cell hR1.out 1
                have hr2 := blk_cell hR1.out 2
                have hz0 := blk_frozen hR1.out 0
                have hz1 := blk_frozen hR1.out 1
                have hz2 := blk_frozen hR1.out 2
                simp only [List.getElem?_toArray, List.getElem?_cons_succ, List.getElem?_cons_zero] at hc0 hc1 hc2 hr0 hr1 hr2
                go_wp2_with fail
                cases a2 with
                | false =>
                  refine (version_made.calls _ _ _ _ _ H2.out).mono ?_
                  rintro e' w2 ⟨rfl, hb⟩
                  have hR2 := Lib.hid (blk_below hR1.out hb)
                  have hP2 := Lib.hid (blk_below hP1.out hb)
                  have hB2 := Lib.hid (below_then hB1.out (below_size hB1.out) hb)
                  clear hb hc0 hc1 hc2 hr0 hr1 hr2 hz0 hz1 hz2
                  have hc0 := blk_cell hP2.out 0
                  have hc1 := blk_cell hP2.out 1
                  have hc2 := blk_cell hP2.out 2
                  have hr0 := blk_cell hR2.out 0
                  have hr1 := blk_cell hR2.out 1
                  have hr2 := blk_cell hR2.out 2
                  have hz0 := blk_frozen hR2.out 0
                  have hz1 := blk_frozen hR2.out 1
                  have hz2 := blk_frozen hR2.out 2
                  simp only [List.getElem?_toArray, List.getElem?_cons_succ, List.getElem?_cons_zero] at hc0 hc1 hc2 hr0 hr1 hr2
                  go_wp2_with fail
                  refine bodyPost_ret (results_ct rfl _ _ w.heap.size 108 #[.string e, .string up, .string rev] (0, 0) _ rfl (blk_put (blk_put (blk_put hR2.out 0 _ rfl) 1 _ rfl) 2 _ rfl) Tryd.underlying108 rfl rfl) rfl ⟨by rw [Ho.out]; rfl, below_set (below_set (below_set hB2.out (Nat.le_refl _)) (Nat.le_refl _)) (Nat.le_refl _)⟩
                | true =>
                  refine (version_made.calls _ _ _ _ _ H2.out).mono ?_
                  rintro e' w2 ⟨rfl, hb⟩
                  have hR2 := Lib.hid (blk_below hR1.out hb)
                  have hP2 := Lib.hid (blk_below hP1.out hb)
                  have hB2 := Lib.hid (below_then hB1.out (below_size hB1.out) hb)
                  clear hb hc0 hc1 hc2 hr0 hr1 hr2 hz0 hz1 hz2
                  have hc0 := blk_cell hP2.out 0
                  have hc1 := blk_cell hP2.out 1
                  have hc2 := blk_cell hP2.out 2
                  have hr0 := blk_cell hR2.out 0
                  have hr1 := blk_cell hR2.out 1
                  have hr2 := blk_cell hR2.out 2
                  have hz0 := blk_frozen hR2.out 0
                  have hz1 := blk_frozen hR2.out 1
                  have hz2 := blk_frozen hR2.out 2
                  simp only [List.getElem?_toArray, List.getElem?_cons_succ, List.getElem?_cons_zero] at hc0 hc1 hc2 hr0 hr1 hr2
                  go_wp2_with fail
                  refine (version_made.calls _ _ _ _ _ H3.out).mono ?_
                  rintro e' w3 ⟨rfl, hb⟩
                  have hR3 := Lib.hid (blk_below hR2.out hb)
                  have hP3 := Lib.hid (blk_below hP2.out hb)
                  have hB3 := Lib.hid (below_then hB2.out (below_size hB2.out) hb)
                  clear hb hc0 hc1 hc2 hr0 hr1 hr2 hz0 hz1 hz2
                  have hc0 := blk_cell hP3.out 0
                  have hc1 := blk_cell hP3.out 1
                  have hc2 := blk_cell hP3.out 2
                  have hr0 := blk_cell hR3.out 0
                  have hr1 := blk_cell hR3.out 1
                  have hr2 := blk_cell hR3.out 2
                  have hz0 := blk_frozen hR3.out 0
                  have hz1 := blk_frozen hR3.out 1
                  have hz2 := blk_frozen hR3.out 2
                  simp only [List.getElem?_toArray, List.getElem?_cons_succ, List.getElem?_cons_zero] at hc0 hc1 hc2 hr0 hr1 hr2
                  go_wp2_with fail
                  refine bodyPost_ret (results_ct rfl _ _ w.heap.size 108 #[.string e, .string up, .string rev] (0, 0) _ rfl (blk_put (blk_put (blk_put hR3.out 0 _ rfl) 1 _ rfl) 2 _ rfl) Tryd.underlying108 rfl rfl) rfl ⟨by rw [Ho.out]; rfl, below_set (below_set (below_set hB3.out (Nat.le_refl _)) (Nat.le_refl _)) (Nat.le_refl _)⟩
/-- What 'parted' tells of its pieces. -/
def fin (colon minus : Bool) (e up rev : ByteArray) : ByteArray × ByteArray × ByteArray × Bool :=
  (e, up, rev, ok1 colon minus e up rev && (runesAll (madeP false emptyB) e e.size 0 && (runesAll (madeP true (othersOf colon)) up up.size 0 && runesAll (madeP true ⟨#[43, 46, 126]⟩) rev rev.size 0)))
/-- The second cut: at the last minus. -/
def minusOf (colon : Bool) (e rest : ByteArray) (m : Int) : Option (ByteArray × ByteArray × ByteArray × Bool) :=
  if 0 ≤ m then (if m + 1 ≤ rest.size then some (fin colon true e (rest.extract 0 m.toNat) (rest.extract (m + 1).toNat rest.size)) else none) else some (fin colon false e rest emptyB)
def restOf (s : ByteArray) (c : ByteArray × ByteArray × Bool) : ByteArray := if c.2.2 then c.2.1 else s
def epochOf (c : ByteArray × ByteArray × Bool) : ByteArray := if c.2.2 then c.1 else emptyB
/-- 'parted'. -/
def version_parted.f (k : Nat) (a0 : ByteArray) : Option (ByteArray × ByteArray × ByteArray × Bool) :=
  (strings_Cut.f a0 ⟨#[58]⟩).bind fun c => (strings_LastIndexByte.f k (restOf a0 c) 45).bind fun m => if (restOf a0 c).size ≤ 140737488351232 then minusOf c.2.2 (epochOf c) (restOf a0 c) m else none
theorem version_parted.mono : ∀ a0 k, LeO (version_parted.f k a0) (version_parted.f (k + 1) a0) := by
  intro a0 k r h
  unfold version_parted.f at h ⊢
  obtain ⟨c, hc, h⟩ := Option.bind_eq_some_iff.mp h
  obtain ⟨m, hm, h⟩ := Option.bind_eq_some_iff.mp h
  rw [hc, Option.bind_some, strings_LastIndexByte.mono _ _ k m hm]
  exact h
theorem version_parted.calls (k : Nat) (a0 : ByteArray) (r1 : ByteArray) (r2 : ByteArray) (r3 : ByteArray) (r4 : Bool) (w : World) (h : version_parted.f k a0 = some (r1, r2, r3, r4)) :
    Calls Tryd.prog 72 #[.string a0] w fun e w' => e = .returned (.tuple #[.agg #[.string r1, .string r2, .string r3], .bool r4]) ∧ Below w.heap.size w w' := by
  unfold version_parted.f at h
  obtain ⟨⟨c6, c7, colon⟩, hc, h⟩ := Option.bind_eq_some_iff.mp h
  obtain ⟨m, hm, h⟩ := Option.bind_eq_some_iff.mp h
  split at h
  case isFalse => cases h
  case isTrue hz =>
    unfold minusOf at h
    split at h
    · split at h
      case isFalse => cases h
      case isTrue h0 h1 =>
        have h := Option.some.inj h
        simp only [fin, Prod.mk.injEq] at h
        obtain ⟨rfl, rfl, rfl, rfl⟩ := h
        exact version_parted.walk k a0 _ (restOf a0 (c6, c7, colon)) _ _ c6 c7 colon true m _ _ _ w hc (by rintro rfl; exact ⟨rfl, rfl⟩) (by rintro rfl; exact ⟨rfl, rfl⟩) hm (fun h => by cases h) (fun _ => ⟨h0, h1, rfl, rfl⟩) (by omega) rfl rfl rfl
    · rename_i h0
      have h := Option.some.inj h
      simp only [fin, Prod.mk.injEq] at h
      obtain ⟨rfl, rfl, rfl, rfl⟩ := h
      exact version_parted.walk k a0 _ (restOf a0 (c6, c7, colon)) _ _ c6 c7 colon false m _ _ _ w hc (by rintro rfl; exact ⟨rfl, rfl⟩) (by rintro rfl; exact ⟨rfl, rfl⟩) hm (fun _ => ⟨by omega, rfl, rfl⟩) (fun h => by cases h) (by omega) rfl rfl rfl


/-! ### version_Legal: function 50 -/
def version_Legal.f (k : Nat) (a0 : ByteArray) : Option (Bool) := (version_parted.f k a0).bind fun bt129 => (some bt129.2.2.2)
theorem version_Legal.mono : ∀ a0 k, LeO (version_Legal.f k a0) (version_Legal.f (k + 1) a0) := by
  intro a0 k
  unfold version_Legal.f
  repeat' first
      | (with_reducible exact version_parted.mono _ _)
      | (with_reducible exact LeO.refl _)
      | (with_reducible exact LeO.none _)
      | (with_reducible refine LeO.ite ?_ ?_)
      | (with_reducible refine LeO.bind ?_ (fun _ => ?_))
      | exact version_parted.mono _ _
      | exact LeO.none _
      | refine LeO.ite ?_ ?_
      | refine LeO.bind ?_ (fun _ => ?_)
set_option maxHeartbeats 8000000 in
set_option maxRecDepth 100000 in
theorem version_Legal.calls (k : Nat) (a0 : ByteArray) (r : Bool) (w : World) (h : version_Legal.f k a0 = some r) :
    Calls Tryd.prog 50 #[.string a0] w fun e w' => e = .returned (.bool r) ∧ Below w.heap.size w w' := by
  have hu108 := Tryd.underlying108
  have HB := Aside0.mk (Below.refl w.heap.size w)
  have H : ((version_parted.f k a0).bind fun bt129 => (some bt129.2.2.2)) = some r := h
  clear h
  replace H := Option.bind_eq_some_iff.mp H
  obtain ⟨⟨t129, t130, t131, t132⟩, A20, H⟩ := H
  replace H : (some t132) = some r := H
  have A2 := Aside0.mk A20
  clear A20
  obtain rfl := Option.some.inj H
  go_enter Tryd.func50, Tryd.ntmps50
  go_wp2_with (first | ((with_reducible refine gate_callee (f := 72) rfl ?_); refine goesL_ (some 7) rfl rfl Tryd.func72 (by kernel_rfl) rfl #[.string a0] rfl (by (try simp only [List.map_toArray, List.map_cons, List.map_nil]); first | done | rfl | (simp only [List.length_drop, List.length_take]; rfl) | (simp; done)) ?_; (with_reducible refine (version_parted.calls k a0 t129 t130 t131 t132 _ A2.out).mono ?_); rintro e w3 ⟨rfl, hb⟩; refine ⟨_, rfl, ?_⟩; have n0_ := Aside0.mk (below_step (by repeat (first | (with_reducible first | exact HB.out | apply below_alloc | apply pw_below_drewN | apply below_drew1) | exact HB.out)) hb); clear HB; have HB := n0_; clear n0_; (try clear hb); (try clear hb2); (try clear hk); (try clear hi)) | ((with_reducible refine gate_dst (N := 3) rfl ?_); refine box_event ?hg (N := 3) ?hd (cs := #[.string (⟨#[]⟩ : ByteArray), .string (⟨#[]⟩ : ByteArray), .string (⟨#[]⟩ : ByteArray)]) (t := 108) ?hr ?_; (case hd => rfl); (case hg => rfl); (case hr => first | (go_simp; done) | (go_simp; rfl)); intro gb133 hg w4 hbox hb; have n0_ := Aside0.mk (below_step (by repeat (first | (with_reducible first | exact HB.out | apply below_alloc | apply pw_below_drewN | apply below_drew1) | exact HB.out)) hb); have n1_ := Aside0.mk (hbox); have n2_ := Aside0.mk ((by rw [hg]; exact (below_size (by repeat (first | (with_reducible first | exact HB.out | apply below_alloc | apply pw_below_drewN | apply below_drew1) | exact HB.out))) : w.heap.size ≤ gb133)); have n3_ := Aside0.mk ((by rw [hg]; exact (below_size (by repeat (first | (with_reducible first | exact HB.out | apply below_alloc | apply pw_below_drewN | apply below_drew1) | exact HB.out))) : w.heap.size ≤ gb133)); clear HB; have HB := n0_; have BK133 := n1_; have GW133 := n2_; have GE133 := n3_; clear n0_ n1_ n2_ n3_; clear hb hbox hg; have hcz5_0 : w4.cell? ⟨gb133, 0, none⟩ = some (.string (⟨#[]⟩ : ByteArray)) := (blk_cell BK133.out 0).trans rfl; have hcz5_1 : w4.cell? ⟨gb133, 1, none⟩ = some (.string (⟨#[]⟩ : ByteArray)) := (blk_cell BK133.out 1).trans rfl; have hcz5_2 : w4.cell? ⟨gb133, 2, none⟩ = some (.string (⟨#[]⟩ : ByteArray)) := (blk_cell BK133.out 2).trans rfl; have hfz5_0 := blk_frozen BK133.out 0; have hfz5_1 := blk_frozen BK133.out 1; have hfz5_2 := blk_frozen BK133.out 2))
  go_ret
  exact ⟨by first | rfl | (simp [errW_none, errW_some] <;> rfl) | (simp [*, errW_none, errW_some] <;> rfl) | (simp [errW_none, errW_some, Go.Proofs.YtmocooihkobdjaaDoor.listNe]; done), by repeat (first | (with_reducible first | exact HB.out | apply below_alloc | apply pw_below_drewN | apply below_drew1 | refine below_set ?_ GE133.out) | exact HB.out)⟩

/-! ### relation_Formed: function 26 -/
def relation_Formed.f (k : Nat) (a0_0 : ByteArray) (a0_1 : Int) (a0_2 : ByteArray) : Option (Bool) := (relation_Name.f k a0_0).bind fun t135 => (if t135 = true then (if a0_1 = 0 then (some (a0_2.toList == ([] : List UInt8))) else ((relation_word.f a0_1).bind fun t136 => (if t136.toList = ([] : List UInt8) then (some false) else ((version_Legal.f k a0_2).bind fun t137 => (some t137))))) else (some false))
theorem relation_Formed.mono : ∀ a0 a1 a2 k, LeO (relation_Formed.f k a0 a1 a2) (relation_Formed.f (k + 1) a0 a1 a2) := by
  intro a0 a1 a2 k
  unfold relation_Formed.f
  repeat' first
      | (with_reducible exact relation_Name.mono _ _)
      | (with_reducible exact version_Legal.mono _ _)
      | (with_reducible exact LeO.refl _)
      | (with_reducible exact LeO.none _)
      | (with_reducible refine LeO.ite ?_ ?_)
      | (with_reducible refine LeO.bind ?_ (fun _ => ?_))
      | exact relation_Name.mono _ _
      | exact version_Legal.mono _ _
      | exact LeO.none _
      | refine LeO.ite ?_ ?_
      | refine LeO.bind ?_ (fun _ => ?_)
set_option maxHeartbeats 8000000 in
set_option maxRecDepth 100000 in
theorem relation_Formed.calls (k : Nat) (a0_0 : ByteArray) (a0_1 : Int) (a0_2 : ByteArray) (r : Bool) (w : World) (hG : GG w) (h : relation_Formed.f k a0_0 a0_1 a0_2 = some r) :
    Calls Tryd.prog 26 #[.agg #[.string a0_0, .int .i64 a0_1, .string a0_2]] w fun e w' => e = .returned (.bool r) ∧ Below w.heap.size w w' := by
  have hu46 := Tryd.underlying46
  have HB := Aside0.mk (Below.refl w.heap.size w)
  have HG := Aside0.mk hG
  clear hG
  have H : ((relation_Name.f k a0_0).bind fun t135 => (if t135 = true then (if a0_1 = 0 then (some (a0_2.toList == ([] : List UInt8))) else ((relation_word.f a0_1).bind fun t136 => (if t136.toList = ([] : List UInt8) then (some false) else ((version_Legal.f k a0_2).bind fun t137 => (some t137))))) else (some false))) = some r := h
  clear h
  replace H := Option.bind_eq_some_iff.mp H
  obtain ⟨t135, A20, H⟩ := H
  replace H : (if t135 = true then (if a0_1 = 0 then (some (a0_2.toList == ([] : List UInt8))) else ((relation_word.f a0_1).bind fun t136 => (if t136.toList = ([] : List UInt8) then (some false) else ((version_Legal.f k a0_2).bind fun t137 => (some t137))))) else (some false)) = some r := H
  have A2 := Aside0.mk A20
  clear A20
  by_cases c3 : t135 = true
  · subst c3
    have H1 : (if a0_1 = 0 then (some (a0_2.toList == ([] : List UInt8))) else ((relation_word.f a0_1).bind fun t136 => (if t136.toList = ([] : List UInt8) then (some false) else ((version_Legal.f k a0_2).bind fun t137 => (some t137))))) = some r := by rw [if_pos rfl] at H; exact H
    clear H
    have H := H1
    clear H1
    by_cases c4 : a0_1 = 0
    · rw [if_pos c4] at H
      have c4b0 : (a0_1 == 0) = true := beq_iff_eq.mpr c4
      have c4b1 : (a0_1 != 0) = false := bne_eq_false_iff_eq.mpr c4
      clear c4
      obtain rfl := Option.some.inj H
      go_enter Tryd.func26, Tryd.ntmps26
      go_wp2_with (first | ((with_reducible refine gate_dst (N := 1) rfl ?_); refine box_event ?hg (N := 1) ?hd (cs := #[.string a0_0, .int .i64 a0_1, .string a0_2]) (t := 46) ?hr ?_; (case hd => rfl); (case hg => rfl); (case hr => first | (go_simp; done) | (go_simp; rfl)); intro gb134 hg w5 hbox hb; have n0_ := Aside0.mk (below_step (by repeat (first | (with_reducible first | exact HB.out | apply below_alloc | apply pw_below_drewN | apply below_drew1) | exact HB.out)) hb); have n1_ := Aside0.mk (hbox); have n2_ := Aside0.mk ((by rw [hg]; exact (below_size (by repeat (first | (with_reducible first | exact HB.out | apply below_alloc | apply pw_below_drewN | apply below_drew1) | exact HB.out))) : w.heap.size ≤ gb134)); have n3_ := Aside0.mk ((by rw [hg]; exact (below_size (by repeat (first | (with_reducible first | exact HB.out | apply below_alloc | apply pw_below_drewN | apply below_drew1) | exact HB.out))) : w.heap.size ≤ gb134)); clear HB; have HB := n0_; have BK134 := n1_; have GW134 := n2_; have GE134 := n3_; clear n0_ n1_ n2_ n3_; clear hb hbox hg; have hcz6_0 : w5.cell? ⟨gb134, 0, none⟩ = some (.string a0_0) := (blk_cell BK134.out 0).trans rfl; have hcz6_1 : w5.cell? ⟨gb134, 1, none⟩ = some (.int .i64 a0_1) := (blk_cell BK134.out 1).trans rfl; have hcz6_2 : w5.cell? ⟨gb134, 2, none⟩ = some (.string a0_2) := (blk_cell BK134.out 2).trans rfl; have hfz6_0 := blk_frozen BK134.out 0; have hfz6_1 := blk_frozen BK134.out 1; have hfz6_2 := blk_frozen BK134.out 2) | ((with_reducible refine gate_callee (f := 48) rfl ?_); refine goesL_ (some 5) rfl rfl Tryd.func48 (by kernel_rfl) rfl #[.string a0_0] rfl (by (try simp only [List.map_toArray, List.map_cons, List.map_nil]); first | done | rfl | (simp only [List.length_drop, List.length_take]; rfl) | (simp; done)) ?_; (with_reducible refine (relation_Name.calls k a0_0 true _ A2.out).mono ?_); rintro e w' ⟨rfl, ⟨nd, rfl⟩⟩; refine ⟨_, rfl, ?_⟩))
      go_ret
      exact ⟨by first | rfl | (simp [errW_none, errW_some] <;> rfl) | (simp [*, errW_none, errW_some] <;> rfl) | (simp [errW_none, errW_some, Go.Proofs.YtmocooihkobdjaaDoor.listNe]; done), by repeat (first | (with_reducible first | exact HB.out | apply below_alloc | apply pw_below_drewN | apply below_drew1 | refine below_set ?_ GE134.out) | exact HB.out)⟩
    · rw [if_neg c4] at H
      have c4b0 : (a0_1 == 0) = false := beq_eq_false_iff_ne.mpr c4
      have c4b1 : (a0_1 != 0) = true := bne_iff_ne.mpr c4
      replace H := Option.bind_eq_some_iff.mp H
      obtain ⟨t136, A70, H⟩ := H
      replace H : (if t136.toList = ([] : List UInt8) then (some false) else ((version_Legal.f k a0_2).bind fun t137 => (some t137))) = some r := H
      have A7 := Aside0.mk A70
      clear A70
      by_cases c8 : t136.toList = ([] : List UInt8)
      · rw [if_pos c8] at H
        have c8b0 : (t136.toList == ([] : List UInt8)) = true := beq_iff_eq.mpr c8
        have c8b1 : (t136.toList != ([] : List UInt8)) = false := bne_eq_false_iff_eq.mpr c8
        clear c8
        obtain rfl := Option.some.inj H
        go_enter Tryd.func26, Tryd.ntmps26
        go_wp2_with (first | ((with_reducible refine gate_dst (N := 1) rfl ?_); refine box_event ?hg (N := 1) ?hd (cs := #[.string a0_0, .int .i64 a0_1, .string a0_2]) (t := 46) ?hr ?_; (case hd => rfl); (case hg => rfl); (case hr => first | (go_simp; done) | (go_simp; rfl)); intro gb134 hg w9 hbox hb; have n0_ := Aside0.mk (below_step (by repeat (first | (with_reducible first | exact HB.out | apply below_alloc | apply pw_below_drewN | apply below_drew1) | exact HB.out)) hb); have n1_ := Aside0.mk (hbox); have n2_ := Aside0.mk ((by rw [hg]; exact (below_size (by repeat (first | (with_reducible first | exact HB.out | apply below_alloc | apply pw_below_drewN | apply below_drew1) | exact HB.out))) : w.heap.size ≤ gb134)); have n3_ := Aside0.mk ((by rw [hg]; exact (below_size (by repeat (first | (with_reducible first | exact HB.out | apply below_alloc | apply pw_below_drewN | apply below_drew1) | exact HB.out))) : w.heap.size ≤ gb134)); clear HB; have HB := n0_; have BK134 := n1_; have GW134 := n2_; have GE134 := n3_; clear n0_ n1_ n2_ n3_; clear hb hbox hg; have hcz10_0 : w9.cell? ⟨gb134, 0, none⟩ = some (.string a0_0) := (blk_cell BK134.out 0).trans rfl; have hcz10_1 : w9.cell? ⟨gb134, 1, none⟩ = some (.int .i64 a0_1) := (blk_cell BK134.out 1).trans rfl; have hcz10_2 : w9.cell? ⟨gb134, 2, none⟩ = some (.string a0_2) := (blk_cell BK134.out 2).trans rfl; have hfz10_0 := blk_frozen BK134.out 0; have hfz10_1 := blk_frozen BK134.out 1; have hfz10_2 := blk_frozen BK134.out 2) | ((with_reducible refine gate_callee (f := 48) rfl ?_); refine goesL_ (some 5) rfl rfl Tryd.func48 (by kernel_rfl) rfl #[.string a0_0] rfl (by (try simp only [List.map_toArray, List.map_cons, List.map_nil]); first | done | rfl | (simp only [List.length_drop, List.length_take]; rfl) | (simp; done)) ?_; (with_reducible refine (relation_Name.calls k a0_0 true _ A2.out).mono ?_); rintro e w' ⟨rfl, ⟨nd, rfl⟩⟩; refine ⟨_, rfl, ?_⟩) | ((with_reducible refine gate_callee (f := 49) rfl ?_); refine goesL_ (some 15) rfl rfl Tryd.func49 (by kernel_rfl) rfl #[.int .i64 a0_1] rfl (by (try simp only [List.map_toArray, List.map_cons, List.map_nil]); first | done | rfl | (simp only [List.length_drop, List.length_take]; rfl) | (simp; done)) ?_; (with_reducible refine (relation_word.calls a0_1 t136 _ ?side1 A7.out).mono ?_); (case side1 => exact GG.below HG.out (by repeat (first | (with_reducible first | exact HB.out | apply below_alloc | apply pw_below_drewN | apply below_drew1 | refine below_set ?_ GE134.out) | exact HB.out))); rintro e w11 ⟨rfl, hb⟩; refine ⟨_, rfl, ?_⟩; have n0_ := Aside0.mk (blk_below (g := gb134) (o := .cells #[.string a0_0, .int .i64 a0_1, .string a0_2] 46 (0, 0)) (by (with_reducible repeat (first | refine blk_drewN ?_ _ | refine blk_drew ?_ | refine blk_alloc ?_ _)); exact BK134.out) hb); have n1_ := Aside0.mk (below_step (by repeat (first | (with_reducible first | exact HB.out | apply below_alloc | apply pw_below_drewN | apply below_drew1 | refine below_set ?_ GE134.out) | exact HB.out)) hb); clear BK134; clear HB; have BK134 := n0_; have HB := n1_; clear n0_ n1_; (try clear hb); (try clear hb2); (try clear hk); (try clear hi)))
        go_ret
        exact ⟨by first | rfl | (simp [errW_none, errW_some] <;> rfl) | (simp [*, errW_none, errW_some] <;> rfl) | (simp [errW_none, errW_some, Go.Proofs.YtmocooihkobdjaaDoor.listNe]; done), by repeat (first | (with_reducible first | exact HB.out | apply below_alloc | apply pw_below_drewN | apply below_drew1 | refine below_set ?_ GE134.out) | exact HB.out)⟩
      · rw [if_neg c8] at H
        have c8b0 : (t136.toList == ([] : List UInt8)) = false := beq_eq_false_iff_ne.mpr c8
        have c8b1 : (t136.toList != ([] : List UInt8)) = true := bne_iff_ne.mpr c8
        replace H := Option.bind_eq_some_iff.mp H
        obtain ⟨t137, A120, H⟩ := H
        replace H : (some t137) = some r := H
        have A12 := Aside0.mk A120
        clear A120
        obtain rfl := Option.some.inj H
        go_enter Tryd.func26, Tryd.ntmps26
        go_wp2_with (first | ((with_reducible refine gate_dst (N := 1) rfl ?_); refine box_event ?hg (N := 1) ?hd (cs := #[.string a0_0, .int .i64 a0_1, .string a0_2]) (t := 46) ?hr ?_; (case hd => rfl); (case hg => rfl); (case hr => first | (go_simp; done) | (go_simp; rfl)); intro gb134 hg w13 hbox hb; have n0_ := Aside0.mk (below_step (by repeat (first | (with_reducible first | exact HB.out | apply below_alloc | apply pw_below_drewN | apply below_drew1) | exact HB.out)) hb); have n1_ := Aside0.mk (hbox); have n2_ := Aside0.mk ((by rw [hg]; exact (below_size (by repeat (first | (with_reducible first | exact HB.out | apply below_alloc | apply pw_below_drewN | apply below_drew1) | exact HB.out))) : w.heap.size ≤ gb134)); have n3_ := Aside0.mk ((by rw [hg]; exact (below_size (by repeat (first | (with_reducible first | exact HB.out | apply below_alloc | apply pw_below_drewN | apply below_drew1) | exact HB.out))) : w.heap.size ≤ gb134)); clear HB; have HB := n0_; have BK134 := n1_; have GW134 := n2_; have GE134 := n3_; clear n0_ n1_ n2_ n3_; clear hb hbox hg; have hcz14_0 : w13.cell? ⟨gb134, 0, none⟩ = some (.string a0_0) := (blk_cell BK134.out 0).trans rfl; have hcz14_1 : w13.cell? ⟨gb134, 1, none⟩ = some (.int .i64 a0_1) := (blk_cell BK134.out 1).trans rfl; have hcz14_2 : w13.cell? ⟨gb134, 2, none⟩ = some (.string a0_2) := (blk_cell BK134.out 2).trans rfl; have hfz14_0 := blk_frozen BK134.out 0; have hfz14_1 := blk_frozen BK134.out 1; have hfz14_2 := blk_frozen BK134.out 2) | ((with_reducible refine gate_callee (f := 48) rfl ?_); refine goesL_ (some 5) rfl rfl Tryd.func48 (by kernel_rfl) rfl #[.string a0_0] rfl (by (try simp only [List.map_toArray, List.map_cons, List.map_nil]); first | done | rfl | (simp only [List.length_drop, List.length_take]; rfl) | (simp; done)) ?_; (with_reducible refine (relation_Name.calls k a0_0 true _ A2.out).mono ?_); rintro e w' ⟨rfl, ⟨nd, rfl⟩⟩; refine ⟨_, rfl, ?_⟩) | ((with_reducible refine gate_callee (f := 49) rfl ?_); refine goesL_ (some 15) rfl rfl Tryd.func49 (by kernel_rfl) rfl #[.int .i64 a0_1] rfl (by (try simp only [List.map_toArray, List.map_cons, List.map_nil]); first | done | rfl | (simp only [List.length_drop, List.length_take]; rfl) | (simp; done)) ?_; (with_reducible refine (relation_word.calls a0_1 t136 _ ?side1 A7.out).mono ?_); (case side1 => exact GG.below HG.out (by repeat (first | (with_reducible first | exact HB.out | apply below_alloc | apply pw_below_drewN | apply below_drew1 | refine below_set ?_ GE134.out) | exact HB.out))); rintro e w15 ⟨rfl, hb⟩; refine ⟨_, rfl, ?_⟩; have n0_ := Aside0.mk (blk_below (g := gb134) (o := .cells #[.string a0_0, .int .i64 a0_1, .string a0_2] 46 (0, 0)) (by (with_reducible repeat (first | refine blk_drewN ?_ _ | refine blk_drew ?_ | refine blk_alloc ?_ _)); exact BK134.out) hb); have n1_ := Aside0.mk (below_step (by repeat (first | (with_reducible first | exact HB.out | apply below_alloc | apply pw_below_drewN | apply below_drew1 | refine below_set ?_ GE134.out) | exact HB.out)) hb); clear BK134; clear HB; have BK134 := n0_; have HB := n1_; clear n0_ n1_; (try clear hb); (try clear hb2); (try clear hk); (try clear hi); have hcz16_0 : w15.cell? ⟨gb134, 0, none⟩ = some (.string a0_0) := (blk_cell BK134.out 0).trans rfl; have hcz16_1 : w15.cell? ⟨gb134, 1, none⟩ = some (.int .i64 a0_1) := (blk_cell BK134.out 1).trans rfl; have hcz16_2 : w15.cell? ⟨gb134, 2, none⟩ = some (.string a0_2) := (blk_cell BK134.out 2).trans rfl; have hfz16_0 := blk_frozen BK134.out 0; have hfz16_1 := blk_frozen BK134.out 1; have hfz16_2 := blk_frozen BK134.out 2) | (go_at_call 50; (with_reducible refine (version_Legal.calls k a0_2 t137 _ A12.out).mono ?_); rintro e w17 ⟨rfl, hb⟩; have n0_ := Aside0.mk (blk_below (g := gb134) (o := .cells #[.string a0_0, .int .i64 a0_1, .string a0_2] 46 (0, 0)) (by (with_reducible repeat (first | refine blk_drewN ?_ _ | refine blk_drew ?_ | refine blk_alloc ?_ _)); exact BK134.out) hb); have n1_ := Aside0.mk (below_step (by repeat (first | (with_reducible first | exact HB.out | apply below_alloc | apply pw_below_drewN | apply below_drew1 | refine below_set ?_ GE134.out) | exact HB.out)) hb); clear BK134; clear HB; have BK134 := n0_; have HB := n1_; clear n0_ n1_; (try clear hb); (try clear hb2); (try clear hk); (try clear hi)))
        go_ret
        exact ⟨by first | rfl | (simp [errW_none, errW_some] <;> rfl) | (simp [*, errW_none, errW_some] <;> rfl) | (simp [errW_none, errW_some, Go.Proofs.YtmocooihkobdjaaDoor.listNe]; done), by repeat (first | (with_reducible first | exact HB.out | apply below_alloc | apply pw_below_drewN | apply below_drew1 | refine below_set ?_ GE134.out) | exact HB.out)⟩
  · replace c3 := Bool.eq_false_iff.mpr c3
    subst c3
    have H1 : (some false) = some r := by rw [if_neg (show ¬ (false = true) by decide)] at H; exact H
    clear H
    have H := H1
    clear H1
    obtain rfl := Option.some.inj H
    go_enter Tryd.func26, Tryd.ntmps26
    go_wp2_with (first | ((with_reducible refine gate_dst (N := 1) rfl ?_); refine box_event ?hg (N := 1) ?hd (cs := #[.string a0_0, .int .i64 a0_1, .string a0_2]) (t := 46) ?hr ?_; (case hd => rfl); (case hg => rfl); (case hr => first | (go_simp; done) | (go_simp; rfl)); intro gb134 hg w18 hbox hb; have n0_ := Aside0.mk (below_step (by repeat (first | (with_reducible first | exact HB.out | apply below_alloc | apply pw_below_drewN | apply below_drew1) | exact HB.out)) hb); have n1_ := Aside0.mk (hbox); have n2_ := Aside0.mk ((by rw [hg]; exact (below_size (by repeat (first | (with_reducible first | exact HB.out | apply below_alloc | apply pw_below_drewN | apply below_drew1) | exact HB.out))) : w.heap.size ≤ gb134)); have n3_ := Aside0.mk ((by rw [hg]; exact (below_size (by repeat (first | (with_reducible first | exact HB.out | apply below_alloc | apply pw_below_drewN | apply below_drew1) | exact HB.out))) : w.heap.size ≤ gb134)); clear HB; have HB := n0_; have BK134 := n1_; have GW134 := n2_; have GE134 := n3_; clear n0_ n1_ n2_ n3_; clear hb hbox hg; have hcz19_0 : w18.cell? ⟨gb134, 0, none⟩ = some (.string a0_0) := (blk_cell BK134.out 0).trans rfl; have hcz19_1 : w18.cell? ⟨gb134, 1, none⟩ = some (.int .i64 a0_1) := (blk_cell BK134.out 1).trans rfl; have hcz19_2 : w18.cell? ⟨gb134, 2, none⟩ = some (.string a0_2) := (blk_cell BK134.out 2).trans rfl; have hfz19_0 := blk_frozen BK134.out 0; have hfz19_1 := blk_frozen BK134.out 1; have hfz19_2 := blk_frozen BK134.out 2) | ((with_reducible refine gate_callee (f := 48) rfl ?_); refine goesL_ (some 5) rfl rfl Tryd.func48 (by kernel_rfl) rfl #[.string a0_0] rfl (by (try simp only [List.map_toArray, List.map_cons, List.map_nil]); first | done | rfl | (simp only [List.length_drop, List.length_take]; rfl) | (simp; done)) ?_; (with_reducible refine (relation_Name.calls k a0_0 false _ A2.out).mono ?_); rintro e w' ⟨rfl, ⟨nd, rfl⟩⟩; refine ⟨_, rfl, ?_⟩))
    go_ret
    exact ⟨by first | rfl | (simp [errW_none, errW_some] <;> rfl) | (simp [*, errW_none, errW_some] <;> rfl) | (simp [errW_none, errW_some, Go.Proofs.YtmocooihkobdjaaDoor.listNe]; done), by repeat (first | (with_reducible first | exact HB.out | apply below_alloc | apply pw_below_drewN | apply below_drew1 | refine below_set ?_ GE134.out) | exact HB.out)⟩

/-! ### api_Rel_24: function 24 -/
/-- Is one of the relations not well shaped? -/
def api_Rel_24.l0 (k : Nat) : List (S46) → Option Bool
  | [] => some false
  | x :: l => (relation_Formed.f k x.f0 x.f1 x.f2).bind fun t => if t = true then api_Rel_24.l0 k l else some true
def api_Rel_24.f (k : Nat) (l0 : List (S46)) : Option (Bool) := api_Rel_24.l0 k l0
theorem api_Rel_24.mono : ∀ a0 k, LeO (api_Rel_24.f k a0) (api_Rel_24.f (k + 1) a0) := by
  intro a0 k
  unfold api_Rel_24.f
  induction a0 with
  | nil => exact LeO.refl _
  | cons x l ih =>
    unfold api_Rel_24.l0
    refine LeO.bind (relation_Formed.mono _ _ _ _) (fun t => ?_)
    refine LeO.ite ih (LeO.refl _)
set_option maxHeartbeats 4000000 in
set_option maxRecDepth 100000 in
/-- The function literal. -/
theorem api_Rel_24.pred (k : Nat) (x : S46) (t : Bool) (W : World) (hG : GG W) (h : relation_Formed.f k x.f0 x.f1 x.f2 = some t) :
    Calls Tryd.prog 25 #[.agg #[.string x.f0, .int .i64 x.f1, .string x.f2]] W fun e W' => e = .returned (.bool (!t)) ∧ Below W.heap.size W W' := by
  obtain ⟨a, b, c⟩ := x
  have huR := Tryd.underlying46
  have HH := Lib.hid h; have HG := Lib.hid hG
  clear h hG
  go_enter Tryd.func25, Tryd.ntmps25
  go_wp2_with (go_at_call 26; refine (relation_Formed.calls k _ _ _ t _ (by first | exact GG.below HG.out ((Below.refl _ _).alloc (Nat.le_refl _) _) | exact GG.below HG.out (Below.refl _ _) | exact GG.below HG.out (pw_below_drewN ((Below.refl _ _).alloc (Nat.le_refl _) _) _)) HH.out).mono ?_; rintro e w' ⟨rfl, hb⟩; have Hb := Lib.hid hb; clear hb)
  go_ret
  exact ⟨rfl, by first | exact ((Below.refl _ W).alloc (Nat.le_refl _) _).trans (Hb.out.mono (by simp)) | exact Hb.out | exact (pw_below_drewN ((Below.refl _ W).alloc (Nat.le_refl _) _) _).trans (Hb.out.mono (by simp))⟩
/-- What IndexFunc comes to: some place, or -1. -/
def api_Rel_24.Post (r : Bool) (w : World) (e : Ending) (w' : World) : Prop := ∃ z : Int, e = .returned (.int .i64 z) ∧ decide (0 ≤ z) = r ∧ Below w.heap.size w w'
set_option maxHeartbeats 8000000 in
set_option maxRecDepth 100000 in
theorem api_Rel_24.idx (k : Nat) (A0 : Option Addr) (c0 : Nat) (l0 : List (S46)) (r : Bool) (w : World) (hr0 : Kd.C k46 w A0 l0.length l0) (hc0 : l0.length ≤ c0) (hG : GG w) (h : api_Rel_24.f k l0 = some r) :
    Calls Tryd.prog 47 #[.slice A0 l0.length c0, .func (.func 25) #[] #[]] w (api_Rel_24.Post r w) := by
  have eg : ∀ args w, (callFunc 25 args).run Tryd.prog w = .ok (.enter 25 args) w := enters_of Tryd.func25 (by kernel_rfl) rfl
  have huR := Tryd.underlying46
  have huS := Tryd.underlying23
  have HR0 := Aside0.mk hr0
  have HC0 := Aside0.mk hc0
  have HG := Aside0.mk hG
  have hlen := hr0.2.1
  clear hr0 hc0 hG
  have H' := Aside0.mk (show api_Rel_24.l0 k (l0.drop 0) = some r from h)
  clear h
  go_enter Tryd.func47, Tryd.ntmps47
  go_wp2
  go_loopg [5, 8] l0.length (fun gg _ s8 wr => ∃ x : Int, s8 = .int .i64 x ∧ 0 ≤ x ∧ x ≤ l0.length ∧ l0.length - x.toNat ≤ gg ∧ Aside0 (Below w.heap.size w wr) ∧ Aside0 (api_Rel_24.l0 k (l0.drop x.toNat) = some r))
  case atStart => exact ⟨0, rfl, Int.le_refl _, by omega, by omega, ⟨Below.refl _ _⟩, ⟨H'.out⟩⟩
  case round =>
    obtain ⟨x, rfl, x0, x1, hg, HB, HA⟩ := hrel
    clear H'
    by_cases hlt : x < (l0.length : Int)
    · have hltb : decide (x < (l0.length : Int)) = true := decide_eq_true hlt
      have hxn : x.toNat < l0.length := by omega
      have hdr : l0.drop x.toNat = rd_T46 l0 x :: l0.drop (x.toNat + 1) := by
        rw [List.drop_eq_getElem_cons hxn]
        congr 1
        unfold rd_T46
        rw [List.getD_eq_getElem?_getD, List.getElem?_eq_getElem hxn, Option.getD_some]
      have H := HA.out
      rw [hdr] at H
      unfold api_Rel_24.l0 at H
      replace H := Option.bind_eq_some_iff.mp H
      obtain ⟨t, ht, H⟩ := H
      have HT := Aside0.mk ht
      have HH := Aside0.mk H
      have Hx := Aside0.mk (show x.toNat + 1 = (wrap64 (x + 1)).toNat ∧ 0 ≤ wrap64 (x + 1) ∧ wrap64 (x + 1) ≤ l0.length by
        have : wrap64 (x + 1) = x + 1 := by unfold wrap64; omega
        rw [this]
        omega)
      obtain ⟨ad, ead, hx0, hx1, hx2⟩ := at_T46 HR0.out x x0 hlt
      cases ead
      replace hx0 := (HB.out.cell (World.block_lt_of_cell? w _ hx0)).trans hx0
      replace hx1 := (HB.out.cell (World.block_lt_of_cell? w _ hx1)).trans hx1
      replace hx2 := (HB.out.cell (World.block_lt_of_cell? w _ hx2)).trans hx2
      have hcall := api_Rel_24.pred k (rd_T46 l0 x) t wr (GG.below HG.out HB.out) HT.out
      have Hg := Aside0.mk hg
      have X1 := Aside0.mk x1
      clear hdr H HA ht hxn x1 hg hlen
      have p0 := eq_true x0
      have p1 := eq_true hlt
      have p2 : decide (0 ≤ x) = true := decide_eq_true x0
      cases t with
      | false =>
        have hr : r = true := by
          have := HH.out
          simpa using this.symm
        subst hr
        go_wp2_with (first | (go_at_fn 25; refine hcall.mono ?_; rintro e w' ⟨rfl, hb'⟩; have HB2 := Aside0.mk (HB.out.trans (hb'.mono HB.out.size)); clear hb'))
        go_ret
        exact ⟨x, rfl, p2, HB2.out⟩
      | true =>
        have HN := Aside0.mk (show api_Rel_24.l0 k (l0.drop (x.toNat + 1)) = some r by have := HH.out; simpa using this)
        clear HH
        go_wp2_with (first | (go_at_fn 25; refine hcall.mono ?_; rintro e w' ⟨rfl, hb'⟩; have HB2 := Aside0.mk (HB.out.trans (hb'.mono HB.out.size)); clear hb'))
        go_roundg (l0.length - (x.toNat + 1))
        case measure => have := Hg.out; omega
        case rel => exact ⟨wrap64 (x + 1), by first | rfl | simp, Hx.out.2.1, Hx.out.2.2, by have := Hx.out.1; omega, HB2, by rw [← Hx.out.1]; exact HN⟩
    · have hltb : decide (x < (l0.length : Int)) = false := decide_eq_false hlt
      have H := HA.out
      rw [List.drop_of_length_le (by omega)] at H
      have hr : r = false := by simpa [api_Rel_24.l0] using H.symm
      clear H HA
      subst hr
      go_wp2
      go_ret
      exact ⟨-1, rfl, rfl, HB.out⟩
set_option maxHeartbeats 4000000 in
set_option maxRecDepth 100000 in
theorem api_Rel_24.calls (k : Nat) (A0 : Option Addr) (c0 : Nat) (l0 : List (S46)) (r : Bool) (w : World) (hr0 : Kd.C k46 w A0 l0.length l0) (hc0 : l0.length ≤ c0) (hG : GG w) (h : api_Rel_24.f k l0 = some r) :
    Calls Tryd.prog 24 #[.slice A0 l0.length c0, .func (.func 25) #[] #[]] w fun e w' => e = .returned (.bool r) ∧ Below w.heap.size w w' := by
  have hcon := api_Rel_24.idx k A0 c0 l0 r w hr0 hc0 hG h
  clear hr0 hc0 hG h
  go_enter Tryd.func24, Tryd.ntmps24
  go_wp2_with (go_at_call 47; refine hcon.mono ?_; rintro e w' ⟨z, rfl, hz, hb⟩; have Hz := Lib.hid hz; have Hb := Lib.hid hb; clear hz hb)
  go_ret
  exact ⟨by rw [← Hz.out]; rfl, Hb.out⟩


/-! ### request_Formed: function 11 -/
mutual
def request_Formed.l0 : Nat → List (S46) → List (S48) → Int → Int → List (List (S46)) → List (S46) → List (S48) → Option (Bool)
  | 0, _, _, _, _, _, _, _ => none
  | k + 1, x3, x12, x13, x14, x139000, x139001, x139002 => if x14 < x13 then (if 0 ≤ x14 then (if x14 < (x12.length : Int) then (if x3.length < 3518437208883 then (request_Formed.l0 k (x3 ++ [(⟨(rd_T48 x12 x14).f1.f0, (rd_T48 x12 x14).f1.f1, (rd_T48 x12 x14).f1.f2⟩ : S46)]) x12 x13 (wrap64 (x14 + 1)) x139000 x139001 x139002) else (none)) else (none)) else (none)) else (request_Formed.l1 k x3 x139000 (x139000.length : Int) 0)
def request_Formed.l1 : Nat → List (S46) → List (List (S46)) → Int → Int → Option (Bool)
  | 0, _, _, _, _ => none
  | k + 1, x3, x25, x26, x27 => if x27 < x26 then (if 0 ≤ x27 then (if x27 < (x25.length : Int) then (if ((rd_L3 x25 x27).length : Int) = 0 then (some false) else (if x3.length + (rd_L3 x25 x27).length < 3518437208883 then (request_Formed.l1 k (x3 ++ (rd_L3 x25 x27)) x25 x26 (wrap64 (x27 + 1))) else (none))) else (none)) else (none)) else ((api_Rel_24.f k x3).bind fun t151 => (some (!t151)))
end
def request_Formed.f (k : Nat) (l0_0 : List (List (S46))) (l0_1 : List (S46)) (l0_2 : List (S48)) : Option (Bool) := (api_Rel_23.f l0_1).bind fun t139 => (request_Formed.l0 k t139 l0_2 (l0_2.length : Int) 0 l0_0 l0_1 l0_2)
theorem request_Formed.mono_l : ∀ k, (∀ y0 y1 y2 y3 y4 y5 y6, LeO (request_Formed.l0 k y0 y1 y2 y3 y4 y5 y6) (request_Formed.l0 (k + 1) y0 y1 y2 y3 y4 y5 y6)) ∧ (∀ y0 y1 y2 y3, LeO (request_Formed.l1 k y0 y1 y2 y3) (request_Formed.l1 (k + 1) y0 y1 y2 y3))
  | 0 => ⟨fun _ _ _ _ _ _ _ r h => by simp [request_Formed.l0] at h, fun _ _ _ _ r h => by simp [request_Formed.l1] at h⟩
  | k + 1 => by
    obtain ⟨ih0, ih1⟩ := request_Formed.mono_l k
    refine ⟨?_, ?_⟩
    · intro y0 y1 y2 y3 y4 y5 y6
      unfold request_Formed.l0
      repeat' first
      | (with_reducible exact ih0 _ _ _ _ _ _ _)
      | (with_reducible exact ih1 _ _ _ _)
      | (with_reducible exact api_Rel_24.mono _ _)
      | (with_reducible exact LeO.refl _)
      | (with_reducible exact LeO.none _)
      | (with_reducible refine LeO.ite ?_ ?_)
      | (with_reducible refine LeO.bind ?_ (fun _ => ?_))
      | exact ih0 _ _ _ _ _ _ _
      | exact ih1 _ _ _ _
      | exact api_Rel_24.mono _ _
      | exact LeO.none _
      | refine LeO.ite ?_ ?_
      | refine LeO.bind ?_ (fun _ => ?_)
    · intro y0 y1 y2 y3
      unfold request_Formed.l1
      repeat' first
      | (with_reducible exact ih0 _ _ _ _ _ _ _)
      | (with_reducible exact ih1 _ _ _ _)
      | (with_reducible exact api_Rel_24.mono _ _)
      | (with_reducible exact LeO.refl _)
      | (with_reducible exact LeO.none _)
      | (with_reducible refine LeO.ite ?_ ?_)
      | (with_reducible refine LeO.bind ?_ (fun _ => ?_))
      | exact ih0 _ _ _ _ _ _ _
      | exact ih1 _ _ _ _
      | exact api_Rel_24.mono _ _
      | exact LeO.none _
      | refine LeO.ite ?_ ?_
      | refine LeO.bind ?_ (fun _ => ?_)
theorem request_Formed.mono : ∀ a0 a1 a2 k, LeO (request_Formed.f k a0 a1 a2) (request_Formed.f (k + 1) a0 a1 a2) := by
  intro a0 a1 a2 k
  obtain ⟨ih0, ih1⟩ := request_Formed.mono_l k
  unfold request_Formed.f
  repeat' first
      | (with_reducible exact ih0 _ _ _ _ _ _ _)
      | (with_reducible exact ih1 _ _ _ _)
      | (with_reducible exact api_Rel_24.mono _ _)
      | (with_reducible exact LeO.refl _)
      | (with_reducible exact LeO.none _)
      | (with_reducible refine LeO.ite ?_ ?_)
      | (with_reducible refine LeO.bind ?_ (fun _ => ?_))
      | exact ih0 _ _ _ _ _ _ _
      | exact ih1 _ _ _ _
      | exact api_Rel_24.mono _ _
      | exact LeO.none _
      | refine LeO.ite ?_ ?_
      | refine LeO.bind ?_ (fun _ => ?_)
set_option maxHeartbeats 8000000 in
set_option maxRecDepth 100000 in
theorem request_Formed.calls (k : Nat) (A0_0 : Option Addr) (c0_0 : Nat) (l0_0 : List (List (S46))) (A0_1 : Option Addr) (c0_1 : Nat) (l0_1 : List (S46)) (A0_2 : Option Addr) (c0_2 : Nat) (l0_2 : List (S48)) (r : Bool) (w : World) (hr0_0 : Kd.C (Kd.slice 46 k46) w A0_0 l0_0.length l0_0) (hc0_0 : l0_0.length ≤ c0_0) (hr0_1 : Kd.C k46 w A0_1 l0_1.length l0_1) (hc0_1 : l0_1.length ≤ c0_1) (hr0_2 : Kd.C k48 w A0_2 l0_2.length l0_2) (hc0_2 : l0_2.length ≤ c0_2) (hG : GG w) (h : request_Formed.f k l0_0 l0_1 l0_2 = some r) :
    Calls Tryd.prog 11 #[.agg #[.slice A0_0 l0_0.length c0_0, .slice A0_1 l0_1.length c0_1, .slice A0_2 l0_2.length c0_2]] w fun e w' => e = .returned (.bool r) ∧ Below w.heap.size w w' := by
  have hu26 := Tryd.underlying26
  have hu48 := Tryd.underlying48
  have hu46 := Tryd.underlying46
  have HR0_0 := Aside0.mk hr0_0
  have HC0_0 := Aside0.mk hc0_0
  clear hr0_0 hc0_0
  have HR0_1 := Aside0.mk hr0_1
  have HC0_1 := Aside0.mk hc0_1
  clear hr0_1 hc0_1
  have HR0_2 := Aside0.mk hr0_2
  have HC0_2 := Aside0.mk hc0_2
  clear hr0_2 hc0_2
  have HB := Aside0.mk (Below.refl w.heap.size w)
  have HG := Aside0.mk hG
  clear hG
  have H : ((api_Rel_23.f l0_1).bind fun t139 => (request_Formed.l0 k t139 l0_2 (l0_2.length : Int) 0 l0_0 l0_1 l0_2)) = some r := h
  clear h
  replace H := Option.bind_eq_some_iff.mp H
  obtain ⟨t139, A20, H⟩ := H
  replace H : (request_Formed.l0 k t139 l0_2 (l0_2.length : Int) 0 l0_0 l0_1 l0_2) = some r := H
  have A2 := Aside0.mk A20
  clear A20
  have H' := Aside0.mk H
  clear H
  go_enter Tryd.func11, Tryd.ntmps11
  go_wp2_with (first | ((with_reducible refine gate_dst (N := 1) rfl ?_); refine box_event ?hg (N := 1) ?hd (cs := #[.slice A0_0 l0_0.length c0_0, .slice A0_1 l0_1.length c0_1, .slice A0_2 l0_2.length c0_2]) (t := 26) ?hr ?_; (case hd => rfl); (case hg => rfl); (case hr => first | (go_simp; done) | (go_simp; rfl)); intro gb138 hg w3 hbox hb; have n0_ := Aside0.mk (below_step (by repeat (first | (with_reducible first | exact HB.out | apply below_alloc | apply pw_below_drewN | apply below_drew1) | exact HB.out)) hb); have n1_ := Aside0.mk (hbox); have n2_ := Aside0.mk ((by rw [hg]; exact (below_size (by repeat (first | (with_reducible first | exact HB.out | apply below_alloc | apply pw_below_drewN | apply below_drew1) | exact HB.out))) : w.heap.size ≤ gb138)); have n3_ := Aside0.mk ((by rw [hg]; exact (below_size (by repeat (first | (with_reducible first | exact HB.out | apply below_alloc | apply pw_below_drewN | apply below_drew1) | exact HB.out))) : w.heap.size ≤ gb138)); clear HB; have HB := n0_; have BK138 := n1_; have GW138 := n2_; have GE138 := n3_; clear n0_ n1_ n2_ n3_; clear hb hbox hg; have hcz4_0 : w3.cell? ⟨gb138, 0, none⟩ = some (.slice A0_0 l0_0.length c0_0) := (blk_cell BK138.out 0).trans rfl; have hcz4_1 : w3.cell? ⟨gb138, 1, none⟩ = some (.slice A0_1 l0_1.length c0_1) := (blk_cell BK138.out 1).trans rfl; have hcz4_2 : w3.cell? ⟨gb138, 2, none⟩ = some (.slice A0_2 l0_2.length c0_2) := (blk_cell BK138.out 2).trans rfl; have hfz4_0 := blk_frozen BK138.out 0; have hfz4_1 := blk_frozen BK138.out 1; have hfz4_2 := blk_frozen BK138.out 2) | ((with_reducible refine gate_callee (f := 23) rfl ?_); refine goesL_ (some 10) rfl rfl Tryd.func23 (by kernel_rfl) rfl #[.slice A0_1 l0_1.length c0_1] rfl (by (try simp only [List.map_toArray, List.map_cons, List.map_nil]); first | done | rfl | (simp only [List.length_drop, List.length_take]; rfl) | (simp; done)) ?_; (with_reducible refine (api_Rel_23.calls _ _ l0_1 t139 _ ?side1 ?side2 A2.out).mono ?_); (case side1 => repeat (first | exact (Kd.C_below HR0_1.out HB.out) | (with_reducible refine Kd.C_alloc ?_ _) | (with_reducible refine Kd.C_drewN ?_ _) | (with_reducible refine Kd.C_drew ?_))); (case side2 => exact HC0_1.out); rintro e w5 ⟨v140, rfl, ho0, hb⟩; refine ⟨_, rfl, ?_⟩; have n0_ := Aside0.mk (Kd.R_lower ho0 (below_size (by repeat (first | (with_reducible first | exact HB.out | apply below_alloc | apply pw_below_drewN | apply below_drew1 | refine below_set ?_ GE138.out) | exact HB.out)))); have n1_ := Aside0.mk (blk_below (g := gb138) (o := .cells #[.slice A0_0 l0_0.length c0_0, .slice A0_1 l0_1.length c0_1, .slice A0_2 l0_2.length c0_2] 26 (0, 0)) (by (with_reducible repeat (first | refine blk_drewN ?_ _ | refine blk_drew ?_ | refine blk_alloc ?_ _)); exact BK138.out) hb); have n2_ := Aside0.mk (below_step (by repeat (first | (with_reducible first | exact HB.out | apply below_alloc | apply pw_below_drewN | apply below_drew1 | refine below_set ?_ GE138.out) | exact HB.out)) hb); clear BK138; clear HB; have HO141 := n0_; have BK138 := n1_; have HB := n2_; clear n0_ n1_ n2_; (try clear hb); (try clear hb2); (try clear hk); (try clear hi); (try clear ho0); have hcz6_0 : w5.cell? ⟨gb138, 0, none⟩ = some (.slice A0_0 l0_0.length c0_0) := (blk_cell BK138.out 0).trans rfl; have hcz6_1 : w5.cell? ⟨gb138, 1, none⟩ = some (.slice A0_1 l0_1.length c0_1) := (blk_cell BK138.out 1).trans rfl; have hcz6_2 : w5.cell? ⟨gb138, 2, none⟩ = some (.slice A0_2 l0_2.length c0_2) := (blk_cell BK138.out 2).trans rfl; have hfz6_0 := blk_frozen BK138.out 0; have hfz6_1 := blk_frozen BK138.out 1; have hfz6_2 := blk_frozen BK138.out 2))
  go_loopg [3, 14] k (fun kq v3 v14 w' => ∃ (x3_1 : List (S46)) (x14_1 : Int), v14 = .int .i64 x14_1 ∧ Aside0 (request_Formed.l0 kq x3_1 l0_2 (l0_2.length : Int) x14_1 l0_0 l0_1 l0_2 = some r) ∧ Aside0 (kq ≤ k) ∧ Aside0 (Kd.R k46 46 w' w.heap.size (fun _ => True) v3 x3_1) ∧ Aside0 (w'.heap[gb138]? = some (.cells #[(.slice A0_0 l0_0.length c0_0), (.slice A0_1 l0_1.length c0_1), (.slice A0_2 l0_2.length c0_2)] 26 (0, 0))) ∧ Aside0 (Below w.heap.size w w'))
  case atStart => exact ⟨(t139), (0), (by first | rfl | (simp; done) | (simp [*]; done)), H', ⟨Nat.le_refl _⟩, ⟨by (with_reducible repeat (first | apply Kd.R_alloc | apply Kd.R_drewN | apply Kd.R_drew)); exact HO141.out⟩, ⟨by (with_reducible repeat (first | refine blk_drewN ?_ _ | refine blk_drew ?_ | refine blk_alloc ?_ _)); exact BK138.out⟩, ⟨by repeat (first | (with_reducible first | exact HB.out | apply below_alloc | apply pw_below_drewN | apply below_drew1 | refine below_set ?_ GE138.out) | exact HB.out)⟩⟩
  case round =>
    clear H'
    try clear c1
    try clear c2
    try clear p2
    try clear hcz4_0
    try clear hcz4_1
    try clear hcz4_2
    try clear hcz6_0
    try clear hcz6_1
    try clear hcz6_2
    try clear hfz4_0
    try clear hfz4_1
    try clear hfz4_2
    try clear hfz6_0
    try clear hfz6_1
    try clear hfz6_2
    obtain ⟨x3_1, x14_1, rfl, HA, HK1, HO_3, BK138, HB⟩ := hrel
    cases gk with
    | zero => exact absurd HA.out (by simp [request_Formed.l0])
    | succ k1 =>
      have H := HA.out
      clear HA
      simp only [request_Formed.l0] at H
      by_cases c7 : x14_1 < (l0_2.length : Int)
      · rw [if_pos c7] at H
        have c7b0 : decide (x14_1 < (l0_2.length : Int)) = true := decide_eq_true c7
        clear c7
        by_cases c8 : 0 ≤ x14_1
        · rw [if_pos c8] at H
          have c8b0 : decide (0 ≤ x14_1) = true := decide_eq_true c8
          clear c8
          by_cases c9 : x14_1 < (l0_2.length : Int)
          · rw [if_pos c9] at H
            have c9b0 : decide (x14_1 < (l0_2.length : Int)) = true := decide_eq_true c9
            clear c9
            by_cases c10 : x3_1.length < 3518437208883
            · rw [if_pos c10] at H
              have LMc10 := Aside0.mk c10
              clear c10
              obtain ⟨y144, hy144⟩ : ∃ y_ : List (S46), y_ = (x3_1 ++ [(⟨(rd_T48 l0_2 x14_1).f1.f0, (rd_T48 l0_2 x14_1).f1.f1, (rd_T48 l0_2 x14_1).f1.f2⟩ : S46)]) := ⟨_, rfl⟩
              replace H : (request_Formed.l0 k1 y144 l0_2 (l0_2.length : Int) (wrap64 (x14_1 + 1)) l0_0 l0_1 l0_2) = some r := by first | (rw [hy144]; with_reducible exact H) | (have H2_ := (Option.bind_some _ _).symm.trans H; rw [hy144]; with_reducible exact H2_) | (have H2_ := (Option.bind_some _ _).symm.trans H; with_reducible exact H2_) | with_reducible exact H | (rw [hy144]; exact H) | exact H
              have Ny144 := Aside0.mk hy144
              clear hy144
              have H' := Aside0.mk H
              clear H
              have p142 : 0 ≤ (x14_1 : Int) := of_decide_eq_true (by first | (with_reducible assumption) | assumption)
              have q142 : x14_1 < (l0_2.length : Int) := of_decide_eq_true (by first | (with_reducible assumption) | assumption)
              obtain ⟨ad142, e142, hx142_0, hx142_1, hx142_2, hx142_3⟩ := at_T48 HR0_2.out x14_1 p142 q142
              cases e142
              replace hx142_0 := (HB.out.cell (World.block_lt_of_cell? w _ hx142_0)).trans hx142_0
              replace hx142_1 := (HB.out.cell (World.block_lt_of_cell? w _ hx142_1)).trans hx142_1
              replace hx142_2 := (HB.out.cell (World.block_lt_of_cell? w _ hx142_2)).trans hx142_2
              replace hx142_3 := (HB.out.cell (World.block_lt_of_cell? w _ hx142_3)).trans hx142_3
              replace p142 := eq_true p142
              replace q142 := eq_true q142
              go_wp2_with (first | ((with_reducible refine gate_dst (N := 5) rfl ?_); refine box_event ?hg (N := 5) ?hd (cs := #[.bool false, .string (⟨#[]⟩ : ByteArray), .int .i64 0, .string (⟨#[]⟩ : ByteArray)]) (t := 48) ?hr ?_; (case hd => rfl); (case hg => rfl); (case hr => first | (go_simp; done) | (go_simp; rfl)); intro gb143 hg w11 hbox hb; have n0_ := Aside0.mk (Kd.R_below (by (with_reducible repeat (first | apply Kd.R_alloc | apply Kd.R_drewN | apply Kd.R_drew)); exact HO_3.out) hb); have n1_ := Aside0.mk (blk_below (g := gb138) (o := .cells #[.slice A0_0 l0_0.length c0_0, .slice A0_1 l0_1.length c0_1, .slice (some ad142) l0_2.length c0_2] 26 (0, 0)) (by (with_reducible repeat (first | refine blk_drewN ?_ _ | refine blk_drew ?_ | refine blk_alloc ?_ _)); exact BK138.out) hb); have n2_ := Aside0.mk (below_step (by repeat (first | (with_reducible first | exact HB.out | apply below_alloc | apply pw_below_drewN | apply below_drew1 | refine below_set ?_ GE138.out) | exact HB.out)) hb); have n3_ := Aside0.mk (hbox); have n4_ := Aside0.mk ((by rw [hg]; exact (below_size (by repeat (first | (with_reducible first | exact HB.out | apply below_alloc | apply pw_below_drewN | apply below_drew1 | refine below_set ?_ GE138.out) | exact HB.out))) : w.heap.size ≤ gb143)); have n5_ := Aside0.mk ((by rw [hg]; exact (below_size (by repeat (first | (with_reducible first | exact HB.out | apply below_alloc | apply pw_below_drewN | apply below_drew1 | refine below_set ?_ GE138.out) | exact HB.out))) : w.heap.size ≤ gb143)); have n6_ := Aside0.mk ((by rw [hg]; exact Nat.ne_of_lt (blk_lt (g := gb138) (o := .cells #[.slice A0_0 l0_0.length c0_0, .slice A0_1 l0_1.length c0_1, .slice (some ad142) l0_2.length c0_2] 26 (0, 0)) (by (with_reducible repeat (first | refine blk_drewN ?_ _ | refine blk_drew ?_ | refine blk_alloc ?_ _)); exact BK138.out)) : gb138 ≠ gb143)); have n7_ := Aside0.mk ((by rw [hg]; exact Nat.ne_of_gt (blk_lt (g := gb138) (o := .cells #[.slice A0_0 l0_0.length c0_0, .slice A0_1 l0_1.length c0_1, .slice (some ad142) l0_2.length c0_2] 26 (0, 0)) (by (with_reducible repeat (first | refine blk_drewN ?_ _ | refine blk_drew ?_ | refine blk_alloc ?_ _)); exact BK138.out)) : gb143 ≠ gb138)); clear HO_3; clear BK138; clear HB; have HO_3 := n0_; have BK138 := n1_; have HB := n2_; have BK143 := n3_; have GW143 := n4_; have GE143 := n5_; have NB138_143 := n6_; have NB143_138 := n7_; clear n0_ n1_ n2_ n3_ n4_ n5_ n6_ n7_; clear hb hbox hg; have hnb12 := NB143_138.out; have hnc12 := NB138_143.out; have hcz13_0 : w11.cell? ⟨gb143, 0, none⟩ = some (.bool false) := (blk_cell BK143.out 0).trans rfl; have hcz13_1 : w11.cell? ⟨gb143, 1, none⟩ = some (.string (⟨#[]⟩ : ByteArray)) := (blk_cell BK143.out 1).trans rfl; have hcz13_2 : w11.cell? ⟨gb143, 2, none⟩ = some (.int .i64 0) := (blk_cell BK143.out 2).trans rfl; have hcz13_3 : w11.cell? ⟨gb143, 3, none⟩ = some (.string (⟨#[]⟩ : ByteArray)) := (blk_cell BK143.out 3).trans rfl; have hfz13_0 := blk_frozen BK143.out 0; have hfz13_1 := blk_frozen BK143.out 1; have hfz13_2 := blk_frozen BK143.out 2; have hfz13_3 := blk_frozen BK143.out 3) | ((with_reducible refine gate_builtin (b := .append) (xs := #[.tmp 18, .tmp 21]) rfl ?_); at_builtin; refine Kd.R_append k46 (w0 := w) w.heap.size rfl (.tmp 18) (.tmp 21) 23 46 (.agg #[(.string ⟨#[]⟩), (.int .i64 0), (.string ⟨#[]⟩)]) 40 rfl Tryd.underlying23 info46 rfl (by decide) (by omega) u3 x3_1 (⟨(rd_T48 l0_2 x14_1).f1.f0, (rd_T48 l0_2 x14_1).f1.f1, (rd_T48 l0_2 x14_1).f1.f2⟩ : S46) [.string ((rd_T48 l0_2 x14_1).f1.f0), .int .i64 ((rd_T48 l0_2 x14_1).f1.f1), .string ((rd_T48 l0_2 x14_1).f1.f2)] (fun _ => True) (fun _ => False) rfl (by first | (go_simp; done) | (go_simp; rfl)) ?aP (fun _ hk => hk.elim) ?aF ?aO ?aB ?aS ?aL ?_; (case aP => exact k46_mkM _ _ _ (⟨(rd_T48 l0_2 x14_1).f1.f0, (rd_T48 l0_2 x14_1).f1.f1, (rd_T48 l0_2 x14_1).f1.f2⟩ : S46)); (case aB => exact (by repeat (first | (with_reducible first | exact HB.out | apply below_alloc | apply pw_below_drewN | apply below_drew1 | refine below_set ?_ GE138.out | refine below_set ?_ GE143.out) | exact HB.out))); (case aF => exact (fun _ _ => trivial)); (case aO => exact (by (with_reducible repeat (first | apply Kd.R_alloc | apply Kd.R_drewN | apply Kd.R_drew)); exact Kd.R_mono (Kd.R_far (p := ⟨gb143, 3, none⟩) (Kd.R_far (p := ⟨gb143, 2, none⟩) (Kd.R_far (p := ⟨gb143, 1, none⟩) (Kd.R_far (p := ⟨gb143, 0, none⟩) (Kd.R_types HO_3.out BK143.out (by decide)) (fun _ hk => hk.2) (.bool ((rd_T48 l0_2 x14_1).f0))) (fun _ hk => hk.2) (.string ((rd_T48 l0_2 x14_1).f1.f0))) (fun _ hk => hk.2) (.int .i64 ((rd_T48 l0_2 x14_1).f1.f1))) (fun _ hk => hk.2) (.string ((rd_T48 l0_2 x14_1).f1.f2))) (fun _ hk => trivial))); (case aS => exact (below_size (by repeat (first | (with_reducible first | exact HB.out | apply below_alloc | apply pw_below_drewN | apply below_drew1 | refine below_set ?_ GE138.out | refine below_set ?_ GE143.out) | exact HB.out)))); (case aL => have := LMc10.out; omega); intro v145 w14 ho hb hg hat; rw [← Ny144.out] at ho; have n0_ := Aside0.mk (blk_grown (g := gb138) (o := .cells #[.slice A0_0 l0_0.length c0_0, .slice A0_1 l0_1.length c0_1, .slice (some ad142) l0_2.length c0_2] 26 (0, 0)) (by (with_reducible repeat (first | refine blk_drewN ?_ _ | refine blk_drew ?_ | refine blk_alloc ?_ _)); refine blk_far ?_ NB138_143.out _; (with_reducible repeat (first | refine blk_drewN ?_ _ | refine blk_drew ?_ | refine blk_alloc ?_ _)); refine blk_far ?_ NB138_143.out _; (with_reducible repeat (first | refine blk_drewN ?_ _ | refine blk_drew ?_ | refine blk_alloc ?_ _)); refine blk_far ?_ NB138_143.out _; (with_reducible repeat (first | refine blk_drewN ?_ _ | refine blk_drew ?_ | refine blk_alloc ?_ _)); refine blk_far ?_ NB138_143.out _; (with_reducible repeat (first | refine blk_drewN ?_ _ | refine blk_drew ?_ | refine blk_alloc ?_ _)); exact BK138.out) hg (Kd.R_ne HO_3.out BK138.out (by decide))); have n1_ := Aside0.mk (blk_grown (g := gb143) (o := .cells #[.bool ((rd_T48 l0_2 x14_1).f0), .string ((rd_T48 l0_2 x14_1).f1.f0), .int .i64 ((rd_T48 l0_2 x14_1).f1.f1), .string ((rd_T48 l0_2 x14_1).f1.f2)] 48 (0, 0)) (by (with_reducible repeat (first | refine blk_drewN ?_ _ | refine blk_drew ?_ | refine blk_alloc ?_ _)); refine blk_put (cs := #[.bool ((rd_T48 l0_2 x14_1).f0), .string ((rd_T48 l0_2 x14_1).f1.f0), .int .i64 ((rd_T48 l0_2 x14_1).f1.f1), .string (⟨#[]⟩ : ByteArray)]) ?_ 3 _ rfl; (with_reducible repeat (first | refine blk_drewN ?_ _ | refine blk_drew ?_ | refine blk_alloc ?_ _)); refine blk_put (cs := #[.bool ((rd_T48 l0_2 x14_1).f0), .string ((rd_T48 l0_2 x14_1).f1.f0), .int .i64 0, .string (⟨#[]⟩ : ByteArray)]) ?_ 2 _ rfl; (with_reducible repeat (first | refine blk_drewN ?_ _ | refine blk_drew ?_ | refine blk_alloc ?_ _)); refine blk_put (cs := #[.bool ((rd_T48 l0_2 x14_1).f0), .string (⟨#[]⟩ : ByteArray), .int .i64 0, .string (⟨#[]⟩ : ByteArray)]) ?_ 1 _ rfl; (with_reducible repeat (first | refine blk_drewN ?_ _ | refine blk_drew ?_ | refine blk_alloc ?_ _)); refine blk_put (cs := #[.bool false, .string (⟨#[]⟩ : ByteArray), .int .i64 0, .string (⟨#[]⟩ : ByteArray)]) ?_ 0 _ rfl; (with_reducible repeat (first | refine blk_drewN ?_ _ | refine blk_drew ?_ | refine blk_alloc ?_ _)); exact BK143.out) hg (Kd.R_ne HO_3.out BK143.out (by decide))); have n2_ := Aside0.mk (hb); have n3_ := Aside0.mk (ho); clear BK138; clear BK143; clear HB; clear HO_3; have BK138 := n0_; have BK143 := n1_; have HB := n2_; have HO146 := n3_; clear n0_ n1_ n2_ n3_; clear ho hb hg hat))
              go_roundg k1
              case measure => have := HK1.out; omega
              case rel => exact ⟨(y144), (wrap64 (x14_1 + 1)), (by first | rfl | (simp; done) | (simp [*]; done)), H', ⟨by have := HK1.out; omega⟩, ⟨by (with_reducible repeat (first | apply Kd.R_alloc | apply Kd.R_drewN | apply Kd.R_drew)); exact HO146.out⟩, ⟨by (with_reducible repeat (first | refine blk_drewN ?_ _ | refine blk_drew ?_ | refine blk_alloc ?_ _)); exact BK138.out⟩, ⟨by repeat (first | (with_reducible first | exact HB.out | apply below_alloc | apply pw_below_drewN | apply below_drew1 | refine below_set ?_ GE138.out | refine below_set ?_ GE143.out) | exact HB.out)⟩⟩
            · rw [if_neg c10] at H
              exact absurd H (by simp)
          · rw [if_neg c9] at H
            exact absurd H (by simp)
        · rw [if_neg c8] at H
          exact absurd H (by simp)
      · rw [if_neg c7] at H
        have c7b0 : decide (x14_1 < (l0_2.length : Int)) = false := decide_eq_false c7
        clear c7
        have H' := Aside0.mk H
        clear H
        have hcz15_0 : wr.cell? ⟨gb138, 0, none⟩ = some (.slice A0_0 l0_0.length c0_0) := (blk_cell BK138.out 0).trans rfl
        have hcz15_1 : wr.cell? ⟨gb138, 1, none⟩ = some (.slice A0_1 l0_1.length c0_1) := (blk_cell BK138.out 1).trans rfl
        have hcz15_2 : wr.cell? ⟨gb138, 2, none⟩ = some (.slice A0_2 l0_2.length c0_2) := (blk_cell BK138.out 2).trans rfl
        have hfz15_0 := blk_frozen BK138.out 0
        have hfz15_1 := blk_frozen BK138.out 1
        have hfz15_2 := blk_frozen BK138.out 2
        go_wp2
        go_loopg [3, 27] k1 (fun kq v3 v27 w' => ∃ (x3_2 : List (S46)) (x27_2 : Int), v27 = .int .i64 x27_2 ∧ Aside0 (request_Formed.l1 kq x3_2 l0_0 (l0_0.length : Int) x27_2 = some r) ∧ Aside0 (kq ≤ k1) ∧ Aside0 (Kd.R k46 46 w' w.heap.size (fun _ => True) v3 x3_2) ∧ Aside0 (w'.heap[gb138]? = some (.cells #[(.slice A0_0 l0_0.length c0_0), (.slice A0_1 l0_1.length c0_1), (.slice A0_2 l0_2.length c0_2)] 26 (0, 0))) ∧ Aside0 (Below w.heap.size w w'))
        case atStart => exact ⟨(x3_1), (0), (by first | rfl | (simp; done) | (simp [*]; done)), H', ⟨Nat.le_refl _⟩, ⟨by (with_reducible repeat (first | apply Kd.R_alloc | apply Kd.R_drewN | apply Kd.R_drew)); exact HO_3.out⟩, ⟨by (with_reducible repeat (first | refine blk_drewN ?_ _ | refine blk_drew ?_ | refine blk_alloc ?_ _)); exact BK138.out⟩, ⟨by repeat (first | (with_reducible first | exact HB.out | apply below_alloc | apply pw_below_drewN | apply below_drew1 | refine below_set ?_ GE138.out) | exact HB.out)⟩⟩
        case round =>
          clear H'
          try clear c1
          try clear p1
          try clear q1
          try clear hx1
          try clear c2
          try clear p2
          try clear p6
          try clear c7
          try clear c7b0
          try clear c8
          try clear c8b0
          try clear c9
          try clear c9b0
          try clear c10
          try clear c11
          try clear c12
          try clear p14
          try clear q14
          try clear hx14
          try clear hcz13_0
          try clear hcz13_1
          try clear hcz13_2
          try clear hcz13_3
          try clear hcz15_0
          try clear hcz15_1
          try clear hcz15_2
          try clear hcz4_0
          try clear hcz4_1
          try clear hcz4_2
          try clear hcz6_0
          try clear hcz6_1
          try clear hcz6_2
          try clear hfz13_0
          try clear hfz13_1
          try clear hfz13_2
          try clear hfz13_3
          try clear hfz15_0
          try clear hfz15_1
          try clear hfz15_2
          try clear hfz4_0
          try clear hfz4_1
          try clear hfz4_2
          try clear hfz6_0
          try clear hfz6_1
          try clear hfz6_2
          try clear hx142_0
          try clear hx142_1
          try clear hx142_2
          try clear hx142_3
          try clear p142
          try clear p2
          try clear q142
          obtain ⟨x3_2, x27_2, rfl, HA, HK2, HO_3, BK138, HB⟩ := hrel
          cases gk with
          | zero => exact absurd HA.out (by simp [request_Formed.l1])
          | succ k2 =>
            have H := HA.out
            clear HA
            simp only [request_Formed.l1] at H
            by_cases c16 : x27_2 < (l0_0.length : Int)
            · rw [if_pos c16] at H
              have c16b0 : decide (x27_2 < (l0_0.length : Int)) = true := decide_eq_true c16
              clear c16
              by_cases c17 : 0 ≤ x27_2
              · rw [if_pos c17] at H
                have c17b0 : decide (0 ≤ x27_2) = true := decide_eq_true c17
                clear c17
                by_cases c18 : x27_2 < (l0_0.length : Int)
                · rw [if_pos c18] at H
                  have c18b0 : decide (x27_2 < (l0_0.length : Int)) = true := decide_eq_true c18
                  clear c18
                  by_cases c19 : ((rd_L3 l0_0 x27_2).length : Int) = 0
                  · rw [if_pos c19] at H
                    have c19b0 : (((rd_L3 l0_0 x27_2).length : Int) == 0) = true := beq_iff_eq.mpr c19
                    have c19b1 : (((rd_L3 l0_0 x27_2).length : Int) != 0) = false := bne_eq_false_iff_eq.mpr c19
                    clear c19
                    obtain rfl := Option.some.inj H
                    have p147 : 0 ≤ (x27_2 : Int) := of_decide_eq_true (by first | (with_reducible assumption) | assumption)
                    have q147 : x27_2 < (l0_0.length : Int) := of_decide_eq_true (by first | (with_reducible assumption) | assumption)
                    obtain ⟨ad147, A147_0, c147_0, e147, hx147_0, hl147_0, hi147_0⟩ := at_L3 HR0_0.out x27_2 p147 q147
                    cases e147
                    replace hx147_0 := (HB.out.cell (World.block_lt_of_cell? w _ hx147_0)).trans hx147_0
                    have HR147_0 := Aside0.mk hi147_0
                    have HC147_0 := Aside0.mk hl147_0
                    clear hi147_0 hl147_0
                    replace p147 := eq_true p147
                    replace q147 := eq_true q147
                    go_wp2
                    go_ret
                    exact ⟨by first | rfl | (simp [errW_none, errW_some] <;> rfl) | (simp [*, errW_none, errW_some] <;> rfl) | (simp [errW_none, errW_some, Go.Proofs.YtmocooihkobdjaaDoor.listNe]; done), by repeat (first | (with_reducible first | exact HB.out | apply below_alloc | apply pw_below_drewN | apply below_drew1 | refine below_set ?_ GE138.out) | exact HB.out)⟩
                  · rw [if_neg c19] at H
                    have c19b0 : (((rd_L3 l0_0 x27_2).length : Int) == 0) = false := beq_eq_false_iff_ne.mpr c19
                    have c19b1 : (((rd_L3 l0_0 x27_2).length : Int) != 0) = true := bne_iff_ne.mpr c19
                    have c19b2 : ¬ ((rd_L3 l0_0 x27_2) = []) := fun h_ => c19 (by rw [h_]; rfl)
                    by_cases c20 : x3_2.length + (rd_L3 l0_0 x27_2).length < 3518437208883
                    · rw [if_pos c20] at H
                      have LMc20 := Aside0.mk c20
                      clear c20
                      obtain ⟨y148, hy148⟩ : ∃ y_ : List (S46), y_ = (x3_2 ++ (rd_L3 l0_0 x27_2)) := ⟨_, rfl⟩
                      replace H : (request_Formed.l1 k2 y148 l0_0 (l0_0.length : Int) (wrap64 (x27_2 + 1))) = some r := by first | (rw [hy148]; with_reducible exact H) | (have H2_ := (Option.bind_some _ _).symm.trans H; rw [hy148]; with_reducible exact H2_) | (have H2_ := (Option.bind_some _ _).symm.trans H; with_reducible exact H2_) | with_reducible exact H | (rw [hy148]; exact H) | exact H
                      have Ny148 := Aside0.mk hy148
                      clear hy148
                      have H' := Aside0.mk H
                      clear H
                      have p147 : 0 ≤ (x27_2 : Int) := of_decide_eq_true (by first | (with_reducible assumption) | assumption)
                      have q147 : x27_2 < (l0_0.length : Int) := of_decide_eq_true (by first | (with_reducible assumption) | assumption)
                      obtain ⟨ad147, A147_0, c147_0, e147, hx147_0, hl147_0, hi147_0⟩ := at_L3 HR0_0.out x27_2 p147 q147
                      cases e147
                      replace hx147_0 := (HB.out.cell (World.block_lt_of_cell? w _ hx147_0)).trans hx147_0
                      have HR147_0 := Aside0.mk hi147_0
                      have HC147_0 := Aside0.mk hl147_0
                      clear hi147_0 hl147_0
                      replace p147 := eq_true p147
                      replace q147 := eq_true q147
                      go_wp2_with (first | ((with_reducible refine gate_builtin (b := .append) (xs := #[.tmp 34, .tmp 35]) rfl ?_); at_builtin; refine Kd.R_append_rows k46 (w0 := w) w.heap.size rfl (.tmp 34) (.tmp 35) 23 46 (.agg #[(.string ⟨#[]⟩), (.int .i64 0), (.string ⟨#[]⟩)]) 40 rfl Tryd.underlying23 info46 rfl (by decide) (by omega) u3 x3_2 (rd_L3 l0_0 x27_2) _ _ _ (fun _ => True) (fun _ => False) rfl rfl ?aO ?aR (fun _ _ h => h) (fun _ h => h.elim) ?aF ?aB ?aS ?aL ?_; (case aR => repeat (first | exact (Kd.C_below HR147_0.out HB.out) | (with_reducible refine Kd.C_alloc ?_ _) | (with_reducible refine Kd.C_drewN ?_ _) | (with_reducible refine Kd.C_drew ?_))); (case aB => exact (by repeat (first | (with_reducible first | exact HB.out | apply below_alloc | apply pw_below_drewN | apply below_drew1 | refine below_set ?_ GE138.out) | exact HB.out))); (case aF => exact (fun _ _ => trivial)); (case aO => exact (by (with_reducible repeat (first | apply Kd.R_alloc | apply Kd.R_drewN | apply Kd.R_drew)); exact HO_3.out)); (case aS => exact (below_size (by repeat (first | (with_reducible first | exact HB.out | apply below_alloc | apply pw_below_drewN | apply below_drew1 | refine below_set ?_ GE138.out) | exact HB.out)))); (case aL => have := LMc20.out; omega); intro v149 w21 ho hb hg hat; rw [← Ny148.out] at ho; have n0_ := Aside0.mk (blk_grown (g := gb138) (o := .cells #[.slice (some ad147) l0_0.length c0_0, .slice A0_1 l0_1.length c0_1, .slice A0_2 l0_2.length c0_2] 26 (0, 0)) (by (with_reducible repeat (first | refine blk_drewN ?_ _ | refine blk_drew ?_ | refine blk_alloc ?_ _)); exact BK138.out) hg (Kd.R_ne HO_3.out BK138.out (by decide))); have n1_ := Aside0.mk (hb); have n2_ := Aside0.mk (ho); clear BK138; clear HB; clear HO_3; have BK138 := n0_; have HB := n1_; have HO150 := n2_; clear n0_ n1_ n2_; clear ho hb hg hat))
                      go_roundg k2
                      case measure => have := HK1.out; have := HK2.out; omega
                      case rel => exact ⟨(y148), (wrap64 (x27_2 + 1)), (by first | rfl | (simp; done) | (simp [*]; done)), H', ⟨by have := HK1.out; have := HK2.out; omega⟩, ⟨by (with_reducible repeat (first | apply Kd.R_alloc | apply Kd.R_drewN | apply Kd.R_drew)); exact HO150.out⟩, ⟨by (with_reducible repeat (first | refine blk_drewN ?_ _ | refine blk_drew ?_ | refine blk_alloc ?_ _)); exact BK138.out⟩, ⟨by repeat (first | (with_reducible first | exact HB.out | apply below_alloc | apply pw_below_drewN | apply below_drew1 | refine below_set ?_ GE138.out) | exact HB.out)⟩⟩
                    · rw [if_neg c20] at H
                      exact absurd H (by simp)
                · rw [if_neg c18] at H
                  exact absurd H (by simp)
              · rw [if_neg c17] at H
                exact absurd H (by simp)
            · rw [if_neg c16] at H
              have c16b0 : decide (x27_2 < (l0_0.length : Int)) = false := decide_eq_false c16
              clear c16
              replace H := Option.bind_eq_some_iff.mp H
              obtain ⟨t151, A220, H⟩ := H
              replace H : (some (!t151)) = some r := H
              have A22 := Aside0.mk A220
              clear A220
              obtain rfl := Option.some.inj H
              obtain ⟨Ao23, co23, eo23⟩ := Kd.R_slice HO_3.out
              subst eo23
              go_wp2_with (first | ((with_reducible refine gate_callee (f := 24) rfl ?_); refine goesL_ (some 39) rfl rfl Tryd.func24 (by kernel_rfl) rfl #[.slice Ao23 x3_2.length co23, .func (.func 25) #[] #[]] rfl (by (try simp only [List.map_toArray, List.map_cons, List.map_nil]); first | done | rfl | (simp only [List.length_drop, List.length_take]; rfl) | (simp; done)) ?_; (with_reducible refine (api_Rel_24.calls k2 _ _ x3_2 t151 _ ?side1 ?side2 ?side3 A22.out).mono ?_); (case side1 => repeat (first | exact (Kd.R_reads' HO_3.out).2.2 | (with_reducible refine Kd.C_alloc ?_ _) | (with_reducible refine Kd.C_drewN ?_ _) | (with_reducible refine Kd.C_drew ?_))); (case side2 => exact (Kd.R_reads' HO_3.out).2.1); (case side3 => exact GG.below HG.out (by repeat (first | (with_reducible first | exact HB.out | apply below_alloc | apply pw_below_drewN | apply below_drew1 | refine below_set ?_ GE138.out) | exact HB.out))); rintro e w24 ⟨rfl, hb⟩; refine ⟨_, rfl, ?_⟩; have n0_ := Aside0.mk (Kd.R_below (by (with_reducible repeat (first | apply Kd.R_alloc | apply Kd.R_drewN | apply Kd.R_drew)); exact HO_3.out) hb); have n1_ := Aside0.mk (blk_below (g := gb138) (o := .cells #[.slice A0_0 l0_0.length c0_0, .slice A0_1 l0_1.length c0_1, .slice A0_2 l0_2.length c0_2] 26 (0, 0)) (by (with_reducible repeat (first | refine blk_drewN ?_ _ | refine blk_drew ?_ | refine blk_alloc ?_ _)); exact BK138.out) hb); have n2_ := Aside0.mk (below_step (by repeat (first | (with_reducible first | exact HB.out | apply below_alloc | apply pw_below_drewN | apply below_drew1 | refine below_set ?_ GE138.out) | exact HB.out)) hb); clear HO_3; clear BK138; clear HB; have HO_3 := n0_; have BK138 := n1_; have HB := n2_; clear n0_ n1_ n2_; (try clear hb); (try clear hb2); (try clear hk); (try clear hi)))
              go_ret
              exact ⟨by first | rfl | (simp [errW_none, errW_some] <;> rfl) | (simp [*, errW_none, errW_some] <;> rfl) | (simp [errW_none, errW_some, Go.Proofs.YtmocooihkobdjaaDoor.listNe]; done), by repeat (first | (with_reducible first | exact HB.out | apply below_alloc | apply pw_below_drewN | apply below_drew1 | refine below_set ?_ GE138.out) | exact HB.out)⟩

end Go.Proofs.YtmocooihkobdjaaDoor.B
