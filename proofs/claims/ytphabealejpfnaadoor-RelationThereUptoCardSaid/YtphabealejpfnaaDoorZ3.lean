-- printed by wip/myprint.py of this session over the kit's print.py; Lean checks it
import Derived.Test.YtphabealejpfnaaDoorZ0
import Derived.Test.YtphabealejpfnaaDoorZ2
namespace Go.Proofs.YtphabealejpfnaaDoor.Z
open Go.RowKit Go.Proofs.YtphabealejpfnaaDoorW.PrintWords Go.Proofs.YtphabealejpfnaaDoorW.PrintLast Go.Proofs.YtphabealejpfnaaDoorW.PrintMore
attribute [local go_sem] max2_int min2_int max_two min_two max_three min_three max_four min_four   -- for this text's walks alone
set_option linter.unusedVariables false
set_option linter.unusedSimpArgs false

/-! ### version_parted: function 51 -/
def emptyB : ByteArray := ⟨#[]⟩
def othersOf (colon : Bool) : ByteArray := if colon then ⟨#[46, 43, 45, 126, 58]⟩ else ⟨#[46, 43, 45, 126]⟩
def ok1 (colon minus : Bool) (e up rev : ByteArray) : Bool := (!colon || !e.toList.isEmpty) && (!minus || !rev.toList.isEmpty) && !up.toList.isEmpty && dgt (bt up 0)
theorem two_new (w : World) (o1 o2 : Obj) (n : Nat) : (((w.alloc o1).alloc o2).drewN n).heap[w.heap.size]? = some o1 ∧ (((w.alloc o1).alloc o2).drewN n).heap[w.heap.size + 1]? = some o2 ∧ Below w.heap.size w (((w.alloc o1).alloc o2).drewN n) := by
  refine ⟨blk_drewN (blk_alloc (blk_new w o1) o2) n, blk_drewN ?_ n, pw_below_drewN (below_alloc (below_alloc (Below.refl _ w) o1) o2) n⟩
  have := blk_new (w.alloc o1) o2
  rwa [World.size_alloc] at this
set_option maxHeartbeats 4000000 in
set_option maxRecDepth 1000000 in
/-- The beginning: the parts lie in p; then the test. -/
theorem version_parted.walk (k : Nat) (s e rest up rev c6 c7 : ByteArray) (colon minus : Bool) (m : Int) (a1 a2 a3 : Bool) (w : World)
    (hcut : strings_Cut.f s ⟨#[58]⟩ = some (c6, c7, colon))
    (hyes : colon = true → c6 = e ∧ c7 = rest)
    (hrest : colon = false → rest = s ∧ e = emptyB)
    (hlast : strings_LastIndexByte.f k rest 45 = some m)
    (hm : minus = false → m < 0 ∧ up = rest ∧ rev = emptyB)
    (hm2 : minus = true → 0 ≤ m ∧ m + 1 ≤ rest.size ∧ up = rest.extract 0 m.toNat ∧ rev = rest.extract (m + 1).toNat rest.size)
    (hsz : (rest.size : Int) ≤ 140737488351232)
    (h1 : version_made.f e false emptyB = some a1) (h2 : version_made.f up true (othersOf colon) = some a2) (h3 : version_made.f rev true ⟨#[43, 46, 126]⟩ = some a3) :
    Calls Tryd.prog 51 #[.string s] w fun e' w' => e' = .returned (.tuple #[.agg #[.string e, .string up, .string rev], .bool (ok1 colon minus e up rev && (a1 && (a2 && a3)))]) ∧ Below w.heap.size w w' := by
  have Hcut := Lib.hid hcut; clear hcut
  have Hlast := Lib.hid hlast; clear hlast
  have Hrest := Lib.hid hrest; clear hrest
  have Hyes := Lib.hid hyes; clear hyes
  have Hm := Lib.hid hm; clear hm
  have Hm2 := Lib.hid hm2; clear hm2
  have H1 := Lib.hid h1; clear h1
  have H2 := Lib.hid h2; clear h2
  have H3 := Lib.hid h3; clear h3
  have hu27 := Tryd.underlying68
  go_enter Tryd.func51, Tryd.ntmps51
  go_upto_if 19 with (go_at_call 63; refine (strings_Cut.calls _ _ _ _ _ _ Hcut.out).mono ?_; rintro e' w' ⟨rfl, ⟨nd, rfl⟩⟩)
  go_cut [5] (fun s5 wx => s5 = .string rest ∧ Hid (wx.heap[w.heap.size]? = some (.cells #[.string emptyB, .string emptyB, .string emptyB] 68 (0, 0))) ∧ Hid (wx.heap[w.heap.size + 1]? = some (.cells #[.string e, .string emptyB, .string emptyB] 68 (0, 0))) ∧ Hid (Below w.heap.size w wx))
  case first =>
    cases colon
    · obtain ⟨er, ee⟩ := Hrest.out rfl
      have He := Lib.hid ee; have Her := Lib.hid er
      clear er ee
      go_wp2_with fail
      go_meet
      obtain ⟨q1, q2, q3⟩ := two_new w (.cells #[.string emptyB, .string emptyB, .string emptyB] 68 (0, 0)) (.cells #[.string emptyB, .string emptyB, .string emptyB] 68 (0, 0)) nd
      exact ⟨by rw [Her.out], q1, by rw [He.out]; exact q2, q3⟩
    · obtain ⟨er, ee⟩ := Hyes.out rfl
      have He := Lib.hid er; have Her := Lib.hid ee
      clear er ee
      go_wp2_with fail
      go_meet
      obtain ⟨q1, q2, q3⟩ := two_new w (.cells #[.string emptyB, .string emptyB, .string emptyB] 68 (0, 0)) (.cells #[.string emptyB, .string emptyB, .string emptyB] 68 (0, 0)) nd
      exact ⟨by rw [Her.out], blk_far q1 (by simp) _, blk_put q2 0 _ (by rw [He.out]; rfl), below_set q3 (by simp)⟩
  case rest =>
    obtain ⟨rfl, hR, hP, hB⟩ := hcut
    have hc1 := blk_cell hP.out 1
    have hz1 := blk_frozen hP.out 1
    simp only [List.getElem?_toArray, List.getElem?_cons_succ, List.getElem?_cons_zero] at hc1
    go_upto_region 7 with fail
    clear hc1 hz1
    go_cut [9] (fun s9 wx => s9 = .int .i64 m ∧ Hid (wx.heap[w.heap.size]? = some (.cells #[.string emptyB, .string emptyB, .string emptyB] 68 (0, 0))) ∧ Hid (wx.heap[w.heap.size + 1]? = some (.cells #[.string e, .string rest, .string emptyB] 68 (0, 0))) ∧ Hid (Below w.heap.size w wx))
    case first =>
      go_wp2_with (go_at_call 64; refine (strings_LastIndexByte.calls _ _ _ _ _ Hlast.out).mono ?_; rintro e' w' ⟨rfl, ⟨nd2, rfl⟩⟩)
      go_meet
      exact ⟨rfl, blk_drewN (blk_far hR.out (by simp) _) _, blk_drewN (blk_put hP.out 1 _ rfl) _, pw_below_drewN (below_set hB.out (by simp)) _⟩
    case rest =>
      obtain ⟨rfl, hR, hP, hB⟩ := hcut
      have Hge : Hid (minus = decide (0 ≤ m)) := by
        cases minus
        · have := (Hm.out rfl).1
          exact (decide_eq_false (by omega)).symm
        · have := (Hm2.out rfl).1
          exact (decide_eq_true (by omega)).symm
      go_upto_if 28 with fail
      go_cut [] (fun wx => Hid (wx.heap[w.heap.size]? = some (.cells #[.string emptyB, .string emptyB, .string emptyB] 68 (0, 0))) ∧ Hid (wx.heap[w.heap.size + 1]? = some (.cells #[.string e, .string up, .string rev] 68 (0, 0))) ∧ Hid (Below w.heap.size w wx))
      case first =>
        cases minus
        · obtain ⟨m1, m2, m3⟩ := Hm.out rfl
          have M2 := Lib.hid m2; have M3 := Lib.hid m3
          clear m2 m3
          have hd : decide (0 ≤ m) = false := decide_eq_false (by omega)
          go_wp2_with fail
          go_meet
          exact ⟨hR.out, by rw [M2.out, M3.out]; exact hP.out, hB.out⟩
        · obtain ⟨m0, m1, m2, m3⟩ := Hm2.out rfl
          have M2 := Lib.hid m2; have M3 := Lib.hid m3
          clear m2 m3
          have hd : decide (0 ≤ m) = true := decide_eq_true (by omega)
          have hz1 := blk_frozen hP.out 1
          have hz2 := blk_frozen hP.out 2
          have hc1 := blk_cell hP.out 1
          have hc2 := blk_cell hP.out 2
          simp only [List.getElem?_toArray, List.getElem?_cons_succ, List.getElem?_cons_zero] at hc1 hc2
          go_wp2_with fail
          go_region
          all_goals (go_wp2_with fail)
          all_goals go_meet
          all_goals exact ⟨blk_drew (blk_far (blk_far hR.out (by simp) _) (by simp) _), by rw [M2.out, M3.out]; exact blk_drew (blk_put (blk_put hP.out 1 _ rfl) 2 _ rfl), below_drew (below_set (below_set hB.out (by simp)) (by simp))⟩
      case rest =>
        obtain ⟨hR, hP, hB⟩ := hcut
        go_upto_if 38 with fail
        go_cut [10] (fun s10 wx => s10 = .string (othersOf colon) ∧ Hid (wx.heap[w.heap.size]? = some (.cells #[.string emptyB, .string emptyB, .string emptyB] 68 (0, 0))) ∧ Hid (wx.heap[w.heap.size + 1]? = some (.cells #[.string e, .string up, .string rev] 68 (0, 0))) ∧ Hid (Below w.heap.size w wx))
        case first =>
          cases colon
          all_goals
            go_wp2_with fail
            go_meet
            exact ⟨rfl, hR.out, hP.out, hB.out⟩
        case rest =>
          obtain ⟨rfl, hR, hP, hB⟩ := hcut
          go_upto_region 13 with fail
          go_cut [11] (fun s11 wx => s11 = .bool (ok1 colon minus e up rev) ∧ Hid (wx.heap[w.heap.size]? = some (.cells #[.string emptyB, .string emptyB, .string emptyB] 68 (0, 0))) ∧ Hid (wx.heap[w.heap.size + 1]? = some (.cells #[.string e, .string up, .string rev] 68 (0, 0))) ∧ Hid (Below w.heap.size w wx))
          case first =>
            have hc1 := blk_cell hP.out 1
            have hc2 := blk_cell hP.out 2
            simp only [List.getElem?_toArray, List.getElem?_cons_succ, List.getElem?_cons_zero] at hc1 hc2
            have hlt : decide (m < 0) = !minus := by
              rw [Hge.out, ← decide_not]
              simp only [decide_eq_decide]
              omega
            obtain ⟨be, hbe⟩ : ∃ b, c6.toList.isEmpty = b := ⟨_, rfl⟩
            obtain ⟨br, hbr⟩ : ∃ b, rev.toList.isEmpty = b := ⟨_, rfl⟩
            obtain ⟨bu, hbu⟩ : ∃ b, up.toList.isEmpty = b := ⟨_, rfl⟩
            have Hok : Hid (ok1 colon minus e up rev = ((!colon || !be) && (!minus || !br) && !bu && dgt (bt up 0))) := by
              unfold ok1
              rw [hbr, hbu]
              cases colon
              · rfl
              · rw [← (Hyes.out rfl).1, hbe]; rfl
            obtain ⟨dg, Hdg⟩ : ∃ d, Hid (dgt (bt up 0) = d) := ⟨_, rfl⟩
            have Hok2 := Lib.hid (Hok.out.trans (congrArg _ Hdg.out))
            have Hdgf := Lib.hid ((dgt_f (bt up 0)).trans (congrArg some Hdg.out))
            clear Hok
            cases bu with
            | true =>
              cases colon <;> cases minus <;> cases be <;> cases br
              all_goals (go_wp2_with fail)
              all_goals go_meet
              all_goals exact ⟨by rw [Hok2.out]; simp, hR.out, hP.out, hB.out⟩
            | false =>
              have hu0 : 0 < up.size := by
                cases h : up.size with
                | zero =>
                  have e0 : up.toList = [] := by
                    rw [Lib.toList_data]
                    exact List.eq_nil_of_length_eq_zero (by simpa using h)
                  rw [e0] at hbu
                  cases hbu
                | succ n => omega
              have hu1 : (0 : Int) < (up.size : Int) := by omega
              have hw32 : wrap32 (((up[0]'hu0).toNat : Nat) : Int) = bt up 0 := by
                have h255 := (up[0]'hu0).toNat_lt
                rw [show bt up 0 = (((up[0]'hu0).toNat : Nat) : Int) from (bt_at up 0 hu0).symm]
                unfold wrap32
                omega
              cases colon <;> cases minus <;> cases be <;> cases br
              all_goals (go_wp2_with (go_at_call 65; refine (version_isDigit.calls _ _ _ Hdgf.out).mono ?_; rintro e' w' ⟨rfl, ⟨nd3, rfl⟩⟩))
              all_goals go_meet
              all_goals exact ⟨by rw [Hok2.out]; simp, hR.out, hP.out, by first | exact hB.out | exact pw_below_drewN hB.out _⟩
          case rest =>
            obtain ⟨rfl, hR, hP, hB⟩ := hcut
            have hc0 := blk_cell hP.out 0
            have hc1 := blk_cell hP.out 1
            have hc2 := blk_cell hP.out 2
            have hr0 := blk_cell hR.out 0
            have hr1 := blk_cell hR.out 1
            have hr2 := blk_cell hR.out 2
            have hz0 := blk_frozen hR.out 0
            have hz1 := blk_frozen hR.out 1
            have hz2 := blk_frozen hR.out 2
            simp only [List.getElem?_toArray, List.getElem?_cons_succ, List.getElem?_cons_zero] at hc0 hc1 hc2 hr0 hr1 hr2
            cases ho : ok1 colon minus e up rev
            · have Ho := Lib.hid ho
              clear ho
              go_wp2_with fail
              refine bodyPost_ret (results_ct rfl _ _ w.heap.size 68 #[.string e, .string up, .string rev] (0, 0) _ rfl (blk_put (blk_put (blk_put hR.out 0 _ rfl) 1 _ rfl) 2 _ rfl) Tryd.underlying68 rfl rfl) rfl ⟨by rw [Ho.out]; rfl, below_set (below_set (below_set hB.out (Nat.le_refl _)) (Nat.le_refl _)) (Nat.le_refl _)⟩
            · have Ho := Lib.hid ho
              clear ho
              cases a1 with
              | false =>
                go_wp2_with fail
                refine (version_made.calls _ _ _ _ _ H1.out).mono ?_
                rintro e' w1 ⟨rfl, hb⟩
                have hR1 := Lib.hid (blk_below hR.out hb)
                have hP1 := Lib.hid (blk_below hP.out hb)
                have hB1 := Lib.hid (below_then hB.out (below_size hB.out) hb)
                clear hb hc0 hc1 hc2 hr0 hr1 hr2 hz0 hz1 hz2
                have hc0 := blk_cell hP1.out 0
                have hc1 := blk_cell hP1.out 1
                have hc2 := blk_cell hP1.out 2
                have hr0 := blk_cell hR1.out 0
                have hr1 := blk_cell hR1.out 1
                have hr2 := blk_cell hR1.out 2
                have hz0 := blk_frozen hR1.out 0
                have hz1 := blk_frozen hR1.out 1
                have hz2 := blk_frozen hR1.out 2
                simp only [List.getElem?_toArray, List.getElem?_cons_succ, List.getElem?_cons_zero] at hc0 hc1 hc2 hr0 hr1 hr2
                go_wp2_with fail
                refine bodyPost_ret (results_ct rfl _ _ w.heap.size 68 #[.string e, .string up, .string rev] (0, 0) _ rfl (blk_put (blk_put (blk_put hR1.out 0 _ rfl) 1 _ rfl) 2 _ rfl) Tryd.underlying68 rfl rfl) rfl ⟨by rw [Ho.out]; rfl, below_set (below_set (below_set hB1.out (Nat.le_refl _)) (Nat.le_refl _)) (Nat.le_refl _)⟩
              | true =>
                go_wp2_with fail
                refine (version_made.calls _ _ _ _ _ H1.out).mono ?_
                rintro e' w1 ⟨rfl, hb⟩
                have hR1 := Lib.hid (blk_below hR.out hb)
                have hP1 := Lib.hid (blk_below hP.out hb)
                have hB1 := Lib.hid (below_then hB.out (below_size hB.out) hb)
                clear hb hc0 hc1 hc2 hr0 hr1 hr2 hz0 hz1 hz2
                have hc0 := blk_cell hP1.out 0
                have hc1 := blk_cell hP1.out 1
                have hc2 := blk_cell hP1.out 2
                have hr0 := blk_cell hR1.out 0
                have hr1 := blk_cell hR1.out 1
                have hr2 := blk_cell hR1.out 2
                have hz0 := blk_frozen hR1.out 0
                have hz1 := blk_frozen hR1.out 1
                have hz2 := blk_frozen hR1.out 2
                simp only [List.getElem?_toArray, List.getElem?_cons_succ, List.getElem?_cons_zero] at hc0 hc1 hc2 hr0 hr1 hr2
                go_wp2_with fail
                cases a2 with
                | false =>
                  refine (version_made.calls _ _ _ _ _ H2.out).mono ?_
                  rintro e' w2 ⟨rfl, hb⟩
                  have hR2 := Lib.hid (blk_below hR1.out hb)
                  have hP2 := Lib.hid (blk_below hP1.out hb)
                  have hB2 := Lib.hid (below_then hB1.out (below_size hB1.out) hb)
                  clear hb hc0 hc1 hc2 hr0 hr1 hr2 hz0 hz1 hz2
                  have hc0 := blk_cell hP2.out 0
                  have hc1 := blk_cell hP2.out 1
                  have hc2 := blk_cell hP2.out 2
                  have hr0 := blk_cell hR2.out 0
                  have hr1 := blk_cell hR2.out 1
                  have hr2 := blk_cell hR2.out 2
                  have hz0 := blk_frozen hR2.out 0
                  have hz1 := blk_frozen hR2.out 1
                  have hz2 := blk_frozen hR2.out 2
                  simp only [List.getElem?_toArray, List.getElem?_cons_succ, List.getElem?_cons_zero] at hc0 hc1 hc2 hr0 hr1 hr2
                  go_wp2_with fail
                  refine bodyPost_ret (results_ct rfl _ _ w.heap.size 68 #[.string e, .string up, .string rev] (0, 0) _ rfl (blk_put (blk_put (blk_put hR2.out 0 _ rfl) 1 _ rfl) 2 _ rfl) Tryd.underlying68 rfl rfl) rfl ⟨by rw [Ho.out]; rfl, below_set (below_set (below_set hB2.out (Nat.le_refl _)) (Nat.le_refl _)) (Nat.le_refl _)⟩
                | true =>
                  refine (version_made.calls _ _ _ _ _ H2.out).mono ?_
                  rintro e' w2 ⟨rfl, hb⟩
                  have hR2 := Lib.hid (blk_below hR1.out hb)
                  have hP2 := Lib.hid (blk_below hP1.out hb)
                  have hB2 := Lib.hid (below_then hB1.out (below_size hB1.out) hb)
                  clear hb hc0 hc1 hc2 hr0 hr1 hr2 hz0 hz1 hz2
                  have hc0 := blk_cell hP2.out 0
                  have hc1 := blk_cell hP2.out 1
                  have hc2 := blk_cell hP2.out 2
                  have hr0 := blk_cell hR2.out 0
                  have hr1 := blk_cell hR2.out 1
                  have hr2 := blk_cell hR2.out 2
                  have hz0 := blk_frozen hR2.out 0
                  have hz1 := blk_frozen hR2.out 1
                  have hz2 := blk_frozen hR2.out 2
                  simp only [List.getElem?_toArray, List.getElem?_cons_succ, List.getElem?_cons_zero] at hc0 hc1 hc2 hr0 hr1 hr2
                  go_wp2_with fail
                  refine (version_made.calls _ _ _ _ _ H3.out).mono ?_
                  rintro e' w3 ⟨rfl, hb⟩
                  have hR3 := Lib.hid (blk_below hR2.out hb)
                  have hP3 := Lib.hid (blk_below hP2.out hb)
                  have hB3 := Lib.hid (below_then hB2.out (below_size hB2.out) hb)
                  clear hb hc0 hc1 hc2 hr0 hr1 hr2 hz0 hz1 hz2
                  have hc0 := blk_cell hP3.out 0
                  have hc1 := blk_cell hP3.out 1
                  have hc2 := blk_cell hP3.out 2
                  have hr0 := blk_cell hR3.out 0
                  have hr1 := blk_cell hR3.out 1
                  have hr2 := blk_cell hR3.out 2
                  have hz0 := blk_frozen hR3.out 0
                  have hz1 := blk_frozen hR3.out 1
                  have hz2 := blk_frozen hR3.out 2
                  simp only [List.getElem?_toArray, List.getElem?_cons_succ, List.getElem?_cons_zero] at hc0 hc1 hc2 hr0 hr1 hr2
                  go_wp2_with fail
                  refine bodyPost_ret (results_ct rfl _ _ w.heap.size 68 #[.string e, .string up, .string rev] (0, 0) _ rfl (blk_put (blk_put (blk_put hR3.out 0 _ rfl) 1 _ rfl) 2 _ rfl) Tryd.underlying68 rfl rfl) rfl ⟨by rw [Ho.out]; rfl, below_set (below_set (below_set hB3.out (Nat.le_refl _)) (Nat.le_refl _)) (Nat.le_refl _)⟩
/-- What 'parted' tells of its pieces. -/
def fin (colon minus : Bool) (e up rev : ByteArray) : ByteArray × ByteArray × ByteArray × Bool :=
  (e, up, rev, ok1 colon minus e up rev && (runesAll (madeP false emptyB) e e.size 0 && (runesAll (madeP true (othersOf colon)) up up.size 0 && runesAll (madeP true ⟨#[43, 46, 126]⟩) rev rev.size 0)))
/-- The second cut: at the last minus. -/
def minusOf (colon : Bool) (e rest : ByteArray) (m : Int) : Option (ByteArray × ByteArray × ByteArray × Bool) :=
  if 0 ≤ m then (if m + 1 ≤ rest.size then some (fin colon true e (rest.extract 0 m.toNat) (rest.extract (m + 1).toNat rest.size)) else none) else some (fin colon false e rest emptyB)
def restOf (s : ByteArray) (c : ByteArray × ByteArray × Bool) : ByteArray := if c.2.2 then c.2.1 else s
def epochOf (c : ByteArray × ByteArray × Bool) : ByteArray := if c.2.2 then c.1 else emptyB
/-- 'parted'. -/
def version_parted.f (k : Nat) (a0 : ByteArray) : Option (ByteArray × ByteArray × ByteArray × Bool) :=
  (strings_Cut.f a0 ⟨#[58]⟩).bind fun c => (strings_LastIndexByte.f k (restOf a0 c) 45).bind fun m => if (restOf a0 c).size ≤ 140737488351232 then minusOf c.2.2 (epochOf c) (restOf a0 c) m else none
theorem version_parted.mono : ∀ a0 k, LeO (version_parted.f k a0) (version_parted.f (k + 1) a0) := by
  intro a0 k r h
  unfold version_parted.f at h ⊢
  obtain ⟨c, hc, h⟩ := Option.bind_eq_some_iff.mp h
  obtain ⟨m, hm, h⟩ := Option.bind_eq_some_iff.mp h
  rw [hc, Option.bind_some, strings_LastIndexByte.mono _ _ k m hm]
  exact h
theorem version_parted.calls (k : Nat) (a0 : ByteArray) (r1 : ByteArray) (r2 : ByteArray) (r3 : ByteArray) (r4 : Bool) (w : World) (h : version_parted.f k a0 = some (r1, r2, r3, r4)) :
    Calls Tryd.prog 51 #[.string a0] w fun e w' => e = .returned (.tuple #[.agg #[.string r1, .string r2, .string r3], .bool r4]) ∧ Below w.heap.size w w' := by
  unfold version_parted.f at h
  obtain ⟨⟨c6, c7, colon⟩, hc, h⟩ := Option.bind_eq_some_iff.mp h
  obtain ⟨m, hm, h⟩ := Option.bind_eq_some_iff.mp h
  split at h
  case isFalse => cases h
  case isTrue hz =>
    unfold minusOf at h
    split at h
    · split at h
      case isFalse => cases h
      case isTrue h0 h1 =>
        have h := Option.some.inj h
        simp only [fin, Prod.mk.injEq] at h
        obtain ⟨rfl, rfl, rfl, rfl⟩ := h
        exact version_parted.walk k a0 _ (restOf a0 (c6, c7, colon)) _ _ c6 c7 colon true m _ _ _ w hc (by rintro rfl; exact ⟨rfl, rfl⟩) (by rintro rfl; exact ⟨rfl, rfl⟩) hm (fun h => by cases h) (fun _ => ⟨h0, h1, rfl, rfl⟩) (by omega) rfl rfl rfl
    · rename_i h0
      have h := Option.some.inj h
      simp only [fin, Prod.mk.injEq] at h
      obtain ⟨rfl, rfl, rfl, rfl⟩ := h
      exact version_parted.walk k a0 _ (restOf a0 (c6, c7, colon)) _ _ c6 c7 colon false m _ _ _ w hc (by rintro rfl; exact ⟨rfl, rfl⟩) (by rintro rfl; exact ⟨rfl, rfl⟩) hm (fun _ => ⟨by omega, rfl, rfl⟩) (fun h => by cases h) (by omega) rfl rfl rfl


/-! ### version_Legal: function 39 -/
def version_Legal.f (k : Nat) (a0 : ByteArray) : Option (Bool) := (version_parted.f k a0).bind fun bt106 => (some bt106.2.2.2)
theorem version_Legal.mono : ∀ a0 k, LeO (version_Legal.f k a0) (version_Legal.f (k + 1) a0) := by
  intro a0 k
  unfold version_Legal.f
  repeat' first
      | (with_reducible exact version_parted.mono _ _)
      | (with_reducible exact LeO.refl _)
      | (with_reducible exact LeO.none _)
      | (with_reducible refine LeO.ite ?_ ?_)
      | (with_reducible refine LeO.bind ?_ (fun _ => ?_))
      | exact version_parted.mono _ _
      | exact LeO.none _
      | refine LeO.ite ?_ ?_
      | refine LeO.bind ?_ (fun _ => ?_)
set_option maxHeartbeats 8000000 in
set_option maxRecDepth 100000 in
theorem version_Legal.calls (k : Nat) (a0 : ByteArray) (r : Bool) (w : World) (h : version_Legal.f k a0 = some r) :
    Calls Tryd.prog 39 #[.string a0] w fun e w' => e = .returned (.bool r) ∧ Below w.heap.size w w' := by
  have hu68 := Tryd.underlying68
  have HB := Aside0.mk (Below.refl w.heap.size w)
  have H : ((version_parted.f k a0).bind fun bt106 => (some bt106.2.2.2)) = some r := h
  clear h
  replace H := Option.bind_eq_some_iff.mp H
  obtain ⟨⟨t106, t107, t108, t109⟩, A20, H⟩ := H
  replace H : (some t109) = some r := H
  have A2 := Aside0.mk A20
  clear A20
  obtain rfl := Option.some.inj H
  go_enter Tryd.func39, Tryd.ntmps39
  go_wp2_with (first | ((with_reducible refine gate_callee (f := 51) rfl ?_); refine goesL_ (some 7) rfl rfl Tryd.func51 (by kernel_rfl) rfl #[.string a0] rfl (by (try simp only [List.map_toArray, List.map_cons, List.map_nil]); first | done | rfl | (simp only [List.length_drop, List.length_take]; rfl)) ?_; (with_reducible refine (version_parted.calls k a0 t106 t107 t108 t109 _ A2.out).mono ?_); rintro e w3 ⟨rfl, hb⟩; refine ⟨_, rfl, ?_⟩; have n0_ := Aside0.mk (below_step (by repeat (first | (with_reducible first | exact HB.out | apply below_alloc | apply pw_below_drewN | apply below_drew1) | exact HB.out)) hb); clear HB; have HB := n0_; clear n0_; (try clear hb); (try clear hb2); (try clear hk); (try clear hi)) | ((with_reducible refine gate_dst (N := 3) rfl ?_); refine box_event ?hg (N := 3) ?hd (cs := #[.string (⟨#[]⟩ : ByteArray), .string (⟨#[]⟩ : ByteArray), .string (⟨#[]⟩ : ByteArray)]) (t := 68) ?hr ?_; (case hd => rfl); (case hg => rfl); (case hr => first | (go_simp; done) | (go_simp; rfl)); intro gb110 hg w4 hbox hb; have n0_ := Aside0.mk (below_step (by repeat (first | (with_reducible first | exact HB.out | apply below_alloc | apply pw_below_drewN | apply below_drew1) | exact HB.out)) hb); have n1_ := Aside0.mk (hbox); have n2_ := Aside0.mk ((by rw [hg]; exact (below_size (by repeat (first | (with_reducible first | exact HB.out | apply below_alloc | apply pw_below_drewN | apply below_drew1) | exact HB.out))) : w.heap.size ≤ gb110)); have n3_ := Aside0.mk ((by rw [hg]; exact (below_size (by repeat (first | (with_reducible first | exact HB.out | apply below_alloc | apply pw_below_drewN | apply below_drew1) | exact HB.out))) : w.heap.size ≤ gb110)); clear HB; have HB := n0_; have BK110 := n1_; have GW110 := n2_; have GE110 := n3_; clear n0_ n1_ n2_ n3_; clear hb hbox hg; have hcz5_0 : w4.cell? ⟨gb110, 0, none⟩ = some (.string (⟨#[]⟩ : ByteArray)) := (blk_cell BK110.out 0).trans rfl; have hcz5_1 : w4.cell? ⟨gb110, 1, none⟩ = some (.string (⟨#[]⟩ : ByteArray)) := (blk_cell BK110.out 1).trans rfl; have hcz5_2 : w4.cell? ⟨gb110, 2, none⟩ = some (.string (⟨#[]⟩ : ByteArray)) := (blk_cell BK110.out 2).trans rfl; have hfz5_0 := blk_frozen BK110.out 0; have hfz5_1 := blk_frozen BK110.out 1; have hfz5_2 := blk_frozen BK110.out 2))
  go_ret
  exact ⟨by first | rfl | (simp [errW_none, errW_some] <;> rfl) | (simp [*, errW_none, errW_some] <;> rfl) | (simp [errW_none, errW_some, Go.Proofs.YtphabealejpfnaaDoor.listNe]; done), by repeat (first | (with_reducible first | exact HB.out | apply below_alloc | apply pw_below_drewN | apply below_drew1 | refine below_set ?_ GE110.out) | exact HB.out)⟩

/-! ### relation_Formed: function 11 -/
def relation_Formed.f (k : Nat) (a0_0 : ByteArray) (a0_1 : Int) (a0_2 : ByteArray) : Option (Bool) := (relation_Name.f k a0_0).bind fun t112 => (if t112 = true then (if a0_1 = 0 then (some (a0_2.toList == ([] : List UInt8))) else ((relation_word.f a0_1).bind fun t113 => (if t113.toList = ([] : List UInt8) then (some false) else ((version_Legal.f k a0_2).bind fun t114 => (some t114))))) else (some false))
theorem relation_Formed.mono : ∀ a0 a1 a2 k, LeO (relation_Formed.f k a0 a1 a2) (relation_Formed.f (k + 1) a0 a1 a2) := by
  intro a0 a1 a2 k
  unfold relation_Formed.f
  repeat' first
      | (with_reducible exact relation_Name.mono _ _)
      | (with_reducible exact version_Legal.mono _ _)
      | (with_reducible exact LeO.refl _)
      | (with_reducible exact LeO.none _)
      | (with_reducible refine LeO.ite ?_ ?_)
      | (with_reducible refine LeO.bind ?_ (fun _ => ?_))
      | exact relation_Name.mono _ _
      | exact version_Legal.mono _ _
      | exact LeO.none _
      | refine LeO.ite ?_ ?_
      | refine LeO.bind ?_ (fun _ => ?_)
set_option maxHeartbeats 8000000 in
set_option maxRecDepth 100000 in
theorem relation_Formed.calls (k : Nat) (a0_0 : ByteArray) (a0_1 : Int) (a0_2 : ByteArray) (r : Bool) (w : World) (hG : GG w) (h : relation_Formed.f k a0_0 a0_1 a0_2 = some r) :
    Calls Tryd.prog 11 #[.agg #[.string a0_0, .int .i64 a0_1, .string a0_2]] w fun e w' => e = .returned (.bool r) ∧ Below w.heap.size w w' := by
  have hu23 := Tryd.underlying23
  have HB := Aside0.mk (Below.refl w.heap.size w)
  have HG := Aside0.mk hG
  clear hG
  have H : ((relation_Name.f k a0_0).bind fun t112 => (if t112 = true then (if a0_1 = 0 then (some (a0_2.toList == ([] : List UInt8))) else ((relation_word.f a0_1).bind fun t113 => (if t113.toList = ([] : List UInt8) then (some false) else ((version_Legal.f k a0_2).bind fun t114 => (some t114))))) else (some false))) = some r := h
  clear h
  replace H := Option.bind_eq_some_iff.mp H
  obtain ⟨t112, A20, H⟩ := H
  replace H : (if t112 = true then (if a0_1 = 0 then (some (a0_2.toList == ([] : List UInt8))) else ((relation_word.f a0_1).bind fun t113 => (if t113.toList = ([] : List UInt8) then (some false) else ((version_Legal.f k a0_2).bind fun t114 => (some t114))))) else (some false)) = some r := H
  have A2 := Aside0.mk A20
  clear A20
  by_cases c3 : t112 = true
  · subst c3
    have H1 : (if a0_1 = 0 then (some (a0_2.toList == ([] : List UInt8))) else ((relation_word.f a0_1).bind fun t113 => (if t113.toList = ([] : List UInt8) then (some false) else ((version_Legal.f k a0_2).bind fun t114 => (some t114))))) = some r := by rw [if_pos rfl] at H; exact H
    clear H
    have H := H1
    clear H1
    by_cases c4 : a0_1 = 0
    · rw [if_pos c4] at H
      have c4b0 : (a0_1 == 0) = true := beq_iff_eq.mpr c4
      have c4b1 : (a0_1 != 0) = false := bne_eq_false_iff_eq.mpr c4
      clear c4
      obtain rfl := Option.some.inj H
      go_enter Tryd.func11, Tryd.ntmps11
      go_wp2_with (first | ((with_reducible refine gate_dst (N := 1) rfl ?_); refine box_event ?hg (N := 1) ?hd (cs := #[.string a0_0, .int .i64 a0_1, .string a0_2]) (t := 23) ?hr ?_; (case hd => rfl); (case hg => rfl); (case hr => first | (go_simp; done) | (go_simp; rfl)); intro gb111 hg w5 hbox hb; have n0_ := Aside0.mk (below_step (by repeat (first | (with_reducible first | exact HB.out | apply below_alloc | apply pw_below_drewN | apply below_drew1) | exact HB.out)) hb); have n1_ := Aside0.mk (hbox); have n2_ := Aside0.mk ((by rw [hg]; exact (below_size (by repeat (first | (with_reducible first | exact HB.out | apply below_alloc | apply pw_below_drewN | apply below_drew1) | exact HB.out))) : w.heap.size ≤ gb111)); have n3_ := Aside0.mk ((by rw [hg]; exact (below_size (by repeat (first | (with_reducible first | exact HB.out | apply below_alloc | apply pw_below_drewN | apply below_drew1) | exact HB.out))) : w.heap.size ≤ gb111)); clear HB; have HB := n0_; have BK111 := n1_; have GW111 := n2_; have GE111 := n3_; clear n0_ n1_ n2_ n3_; clear hb hbox hg; have hcz6_0 : w5.cell? ⟨gb111, 0, none⟩ = some (.string a0_0) := (blk_cell BK111.out 0).trans rfl; have hcz6_1 : w5.cell? ⟨gb111, 1, none⟩ = some (.int .i64 a0_1) := (blk_cell BK111.out 1).trans rfl; have hcz6_2 : w5.cell? ⟨gb111, 2, none⟩ = some (.string a0_2) := (blk_cell BK111.out 2).trans rfl; have hfz6_0 := blk_frozen BK111.out 0; have hfz6_1 := blk_frozen BK111.out 1; have hfz6_2 := blk_frozen BK111.out 2) | ((with_reducible refine gate_callee (f := 12) rfl ?_); refine goesL_ (some 5) rfl rfl Tryd.func12 (by kernel_rfl) rfl #[.string a0_0] rfl (by (try simp only [List.map_toArray, List.map_cons, List.map_nil]); first | done | rfl | (simp only [List.length_drop, List.length_take]; rfl)) ?_; (with_reducible refine (relation_Name.calls k a0_0 true _ A2.out).mono ?_); rintro e w' ⟨rfl, ⟨nd, rfl⟩⟩; refine ⟨_, rfl, ?_⟩))
      go_ret
      exact ⟨by first | rfl | (simp [errW_none, errW_some] <;> rfl) | (simp [*, errW_none, errW_some] <;> rfl) | (simp [errW_none, errW_some, Go.Proofs.YtphabealejpfnaaDoor.listNe]; done), by repeat (first | (with_reducible first | exact HB.out | apply below_alloc | apply pw_below_drewN | apply below_drew1 | refine below_set ?_ GE111.out) | exact HB.out)⟩
    · rw [if_neg c4] at H
      have c4b0 : (a0_1 == 0) = false := beq_eq_false_iff_ne.mpr c4
      have c4b1 : (a0_1 != 0) = true := bne_iff_ne.mpr c4
      replace H := Option.bind_eq_some_iff.mp H
      obtain ⟨t113, A70, H⟩ := H
      replace H : (if t113.toList = ([] : List UInt8) then (some false) else ((version_Legal.f k a0_2).bind fun t114 => (some t114))) = some r := H
      have A7 := Aside0.mk A70
      clear A70
      by_cases c8 : t113.toList = ([] : List UInt8)
      · rw [if_pos c8] at H
        have c8b0 : (t113.toList == ([] : List UInt8)) = true := beq_iff_eq.mpr c8
        have c8b1 : (t113.toList != ([] : List UInt8)) = false := bne_eq_false_iff_eq.mpr c8
        clear c8
        obtain rfl := Option.some.inj H
        go_enter Tryd.func11, Tryd.ntmps11
        go_wp2_with (first | ((with_reducible refine gate_dst (N := 1) rfl ?_); refine box_event ?hg (N := 1) ?hd (cs := #[.string a0_0, .int .i64 a0_1, .string a0_2]) (t := 23) ?hr ?_; (case hd => rfl); (case hg => rfl); (case hr => first | (go_simp; done) | (go_simp; rfl)); intro gb111 hg w9 hbox hb; have n0_ := Aside0.mk (below_step (by repeat (first | (with_reducible first | exact HB.out | apply below_alloc | apply pw_below_drewN | apply below_drew1) | exact HB.out)) hb); have n1_ := Aside0.mk (hbox); have n2_ := Aside0.mk ((by rw [hg]; exact (below_size (by repeat (first | (with_reducible first | exact HB.out | apply below_alloc | apply pw_below_drewN | apply below_drew1) | exact HB.out))) : w.heap.size ≤ gb111)); have n3_ := Aside0.mk ((by rw [hg]; exact (below_size (by repeat (first | (with_reducible first | exact HB.out | apply below_alloc | apply pw_below_drewN | apply below_drew1) | exact HB.out))) : w.heap.size ≤ gb111)); clear HB; have HB := n0_; have BK111 := n1_; have GW111 := n2_; have GE111 := n3_; clear n0_ n1_ n2_ n3_; clear hb hbox hg; have hcz10_0 : w9.cell? ⟨gb111, 0, none⟩ = some (.string a0_0) := (blk_cell BK111.out 0).trans rfl; have hcz10_1 : w9.cell? ⟨gb111, 1, none⟩ = some (.int .i64 a0_1) := (blk_cell BK111.out 1).trans rfl; have hcz10_2 : w9.cell? ⟨gb111, 2, none⟩ = some (.string a0_2) := (blk_cell BK111.out 2).trans rfl; have hfz10_0 := blk_frozen BK111.out 0; have hfz10_1 := blk_frozen BK111.out 1; have hfz10_2 := blk_frozen BK111.out 2) | ((with_reducible refine gate_callee (f := 12) rfl ?_); refine goesL_ (some 5) rfl rfl Tryd.func12 (by kernel_rfl) rfl #[.string a0_0] rfl (by (try simp only [List.map_toArray, List.map_cons, List.map_nil]); first | done | rfl | (simp only [List.length_drop, List.length_take]; rfl)) ?_; (with_reducible refine (relation_Name.calls k a0_0 true _ A2.out).mono ?_); rintro e w' ⟨rfl, ⟨nd, rfl⟩⟩; refine ⟨_, rfl, ?_⟩) | ((with_reducible refine gate_callee (f := 38) rfl ?_); refine goesL_ (some 15) rfl rfl Tryd.func38 (by kernel_rfl) rfl #[.int .i64 a0_1] rfl (by (try simp only [List.map_toArray, List.map_cons, List.map_nil]); first | done | rfl | (simp only [List.length_drop, List.length_take]; rfl)) ?_; (with_reducible refine (relation_word.calls a0_1 t113 _ ?side1 A7.out).mono ?_); (case side1 => exact GG.below HG.out (by repeat (first | (with_reducible first | exact HB.out | apply below_alloc | apply pw_below_drewN | apply below_drew1 | refine below_set ?_ GE111.out) | exact HB.out))); rintro e w11 ⟨rfl, hb⟩; refine ⟨_, rfl, ?_⟩; have n0_ := Aside0.mk (blk_below (g := gb111) (o := .cells #[.string a0_0, .int .i64 a0_1, .string a0_2] 23 (0, 0)) (by (with_reducible repeat (first | refine blk_drewN ?_ _ | refine blk_drew ?_ | refine blk_alloc ?_ _)); exact BK111.out) hb); have n1_ := Aside0.mk (below_step (by repeat (first | (with_reducible first | exact HB.out | apply below_alloc | apply pw_below_drewN | apply below_drew1 | refine below_set ?_ GE111.out) | exact HB.out)) hb); clear BK111; clear HB; have BK111 := n0_; have HB := n1_; clear n0_ n1_; (try clear hb); (try clear hb2); (try clear hk); (try clear hi)))
        go_ret
        exact ⟨by first | rfl | (simp [errW_none, errW_some] <;> rfl) | (simp [*, errW_none, errW_some] <;> rfl) | (simp [errW_none, errW_some, Go.Proofs.YtphabealejpfnaaDoor.listNe]; done), by repeat (first | (with_reducible first | exact HB.out | apply below_alloc | apply pw_below_drewN | apply below_drew1 | refine below_set ?_ GE111.out) | exact HB.out)⟩
      · rw [if_neg c8] at H
        have c8b0 : (t113.toList == ([] : List UInt8)) = false := beq_eq_false_iff_ne.mpr c8
        have c8b1 : (t113.toList != ([] : List UInt8)) = true := bne_iff_ne.mpr c8
        replace H := Option.bind_eq_some_iff.mp H
        obtain ⟨t114, A120, H⟩ := H
        replace H : (some t114) = some r := H
        have A12 := Aside0.mk A120
        clear A120
        obtain rfl := Option.some.inj H
        go_enter Tryd.func11, Tryd.ntmps11
        go_wp2_with (first | ((with_reducible refine gate_dst (N := 1) rfl ?_); refine box_event ?hg (N := 1) ?hd (cs := #[.string a0_0, .int .i64 a0_1, .string a0_2]) (t := 23) ?hr ?_; (case hd => rfl); (case hg => rfl); (case hr => first | (go_simp; done) | (go_simp; rfl)); intro gb111 hg w13 hbox hb; have n0_ := Aside0.mk (below_step (by repeat (first | (with_reducible first | exact HB.out | apply below_alloc | apply pw_below_drewN | apply below_drew1) | exact HB.out)) hb); have n1_ := Aside0.mk (hbox); have n2_ := Aside0.mk ((by rw [hg]; exact (below_size (by repeat (first | (with_reducible first | exact HB.out | apply below_alloc | apply pw_below_drewN | apply below_drew1) | exact HB.out))) : w.heap.size ≤ gb111)); have n3_ := Aside0.mk ((by rw [hg]; exact (below_size (by repeat (first | (with_reducible first | exact HB.out | apply below_alloc | apply pw_below_drewN | apply below_drew1) | exact HB.out))) : w.heap.size ≤ gb111)); clear HB; have HB := n0_; have BK111 := n1_; have GW111 := n2_; have GE111 := n3_; clear n0_ n1_ n2_ n3_; clear hb hbox hg; have hcz14_0 : w13.cell? ⟨gb111, 0, none⟩ = some (.string a0_0) := (blk_cell BK111.out 0).trans rfl; have hcz14_1 : w13.cell? ⟨gb111, 1, none⟩ = some (.int .i64 a0_1) := (blk_cell BK111.out 1).trans rfl; have hcz14_2 : w13.cell? ⟨gb111, 2, none⟩ = some (.string a0_2) := (blk_cell BK111.out 2).trans rfl; have hfz14_0 := blk_frozen BK111.out 0; have hfz14_1 := blk_frozen BK111.out 1; have hfz14_2 := blk_frozen BK111.out 2) | ((with_reducible refine gate_callee (f := 12) rfl ?_); refine goesL_ (some 5) rfl rfl Tryd.func12 (by kernel_rfl) rfl #[.string a0_0] rfl (by (try simp only [List.map_toArray, List.map_cons, List.map_nil]); first | done | rfl | (simp only [List.length_drop, List.length_take]; rfl)) ?_; (with_reducible refine (relation_Name.calls k a0_0 true _ A2.out).mono ?_); rintro e w' ⟨rfl, ⟨nd, rfl⟩⟩; refine ⟨_, rfl, ?_⟩) | ((with_reducible refine gate_callee (f := 38) rfl ?_); refine goesL_ (some 15) rfl rfl Tryd.func38 (by kernel_rfl) rfl #[.int .i64 a0_1] rfl (by (try simp only [List.map_toArray, List.map_cons, List.map_nil]); first | done | rfl | (simp only [List.length_drop, List.length_take]; rfl)) ?_; (with_reducible refine (relation_word.calls a0_1 t113 _ ?side1 A7.out).mono ?_); (case side1 => exact GG.below HG.out (by repeat (first | (with_reducible first | exact HB.out | apply below_alloc | apply pw_below_drewN | apply below_drew1 | refine below_set ?_ GE111.out) | exact HB.out))); rintro e w15 ⟨rfl, hb⟩; refine ⟨_, rfl, ?_⟩; have n0_ := Aside0.mk (blk_below (g := gb111) (o := .cells #[.string a0_0, .int .i64 a0_1, .string a0_2] 23 (0, 0)) (by (with_reducible repeat (first | refine blk_drewN ?_ _ | refine blk_drew ?_ | refine blk_alloc ?_ _)); exact BK111.out) hb); have n1_ := Aside0.mk (below_step (by repeat (first | (with_reducible first | exact HB.out | apply below_alloc | apply pw_below_drewN | apply below_drew1 | refine below_set ?_ GE111.out) | exact HB.out)) hb); clear BK111; clear HB; have BK111 := n0_; have HB := n1_; clear n0_ n1_; (try clear hb); (try clear hb2); (try clear hk); (try clear hi); have hcz16_0 : w15.cell? ⟨gb111, 0, none⟩ = some (.string a0_0) := (blk_cell BK111.out 0).trans rfl; have hcz16_1 : w15.cell? ⟨gb111, 1, none⟩ = some (.int .i64 a0_1) := (blk_cell BK111.out 1).trans rfl; have hcz16_2 : w15.cell? ⟨gb111, 2, none⟩ = some (.string a0_2) := (blk_cell BK111.out 2).trans rfl; have hfz16_0 := blk_frozen BK111.out 0; have hfz16_1 := blk_frozen BK111.out 1; have hfz16_2 := blk_frozen BK111.out 2) | (go_at_call 39; (with_reducible refine (version_Legal.calls k a0_2 t114 _ A12.out).mono ?_); rintro e w17 ⟨rfl, hb⟩; have n0_ := Aside0.mk (blk_below (g := gb111) (o := .cells #[.string a0_0, .int .i64 a0_1, .string a0_2] 23 (0, 0)) (by (with_reducible repeat (first | refine blk_drewN ?_ _ | refine blk_drew ?_ | refine blk_alloc ?_ _)); exact BK111.out) hb); have n1_ := Aside0.mk (below_step (by repeat (first | (with_reducible first | exact HB.out | apply below_alloc | apply pw_below_drewN | apply below_drew1 | refine below_set ?_ GE111.out) | exact HB.out)) hb); clear BK111; clear HB; have BK111 := n0_; have HB := n1_; clear n0_ n1_; (try clear hb); (try clear hb2); (try clear hk); (try clear hi)))
        go_ret
        exact ⟨by first | rfl | (simp [errW_none, errW_some] <;> rfl) | (simp [*, errW_none, errW_some] <;> rfl) | (simp [errW_none, errW_some, Go.Proofs.YtphabealejpfnaaDoor.listNe]; done), by repeat (first | (with_reducible first | exact HB.out | apply below_alloc | apply pw_below_drewN | apply below_drew1 | refine below_set ?_ GE111.out) | exact HB.out)⟩
  · replace c3 := Bool.eq_false_iff.mpr c3
    subst c3
    have H1 : (some false) = some r := by rw [if_neg (show ¬ (false = true) by decide)] at H; exact H
    clear H
    have H := H1
    clear H1
    obtain rfl := Option.some.inj H
    go_enter Tryd.func11, Tryd.ntmps11
    go_wp2_with (first | ((with_reducible refine gate_dst (N := 1) rfl ?_); refine box_event ?hg (N := 1) ?hd (cs := #[.string a0_0, .int .i64 a0_1, .string a0_2]) (t := 23) ?hr ?_; (case hd => rfl); (case hg => rfl); (case hr => first | (go_simp; done) | (go_simp; rfl)); intro gb111 hg w18 hbox hb; have n0_ := Aside0.mk (below_step (by repeat (first | (with_reducible first | exact HB.out | apply below_alloc | apply pw_below_drewN | apply below_drew1) | exact HB.out)) hb); have n1_ := Aside0.mk (hbox); have n2_ := Aside0.mk ((by rw [hg]; exact (below_size (by repeat (first | (with_reducible first | exact HB.out | apply below_alloc | apply pw_below_drewN | apply below_drew1) | exact HB.out))) : w.heap.size ≤ gb111)); have n3_ := Aside0.mk ((by rw [hg]; exact (below_size (by repeat (first | (with_reducible first | exact HB.out | apply below_alloc | apply pw_below_drewN | apply below_drew1) | exact HB.out))) : w.heap.size ≤ gb111)); clear HB; have HB := n0_; have BK111 := n1_; have GW111 := n2_; have GE111 := n3_; clear n0_ n1_ n2_ n3_; clear hb hbox hg; have hcz19_0 : w18.cell? ⟨gb111, 0, none⟩ = some (.string a0_0) := (blk_cell BK111.out 0).trans rfl; have hcz19_1 : w18.cell? ⟨gb111, 1, none⟩ = some (.int .i64 a0_1) := (blk_cell BK111.out 1).trans rfl; have hcz19_2 : w18.cell? ⟨gb111, 2, none⟩ = some (.string a0_2) := (blk_cell BK111.out 2).trans rfl; have hfz19_0 := blk_frozen BK111.out 0; have hfz19_1 := blk_frozen BK111.out 1; have hfz19_2 := blk_frozen BK111.out 2) | ((with_reducible refine gate_callee (f := 12) rfl ?_); refine goesL_ (some 5) rfl rfl Tryd.func12 (by kernel_rfl) rfl #[.string a0_0] rfl (by (try simp only [List.map_toArray, List.map_cons, List.map_nil]); first | done | rfl | (simp only [List.length_drop, List.length_take]; rfl)) ?_; (with_reducible refine (relation_Name.calls k a0_0 false _ A2.out).mono ?_); rintro e w' ⟨rfl, ⟨nd, rfl⟩⟩; refine ⟨_, rfl, ?_⟩))
    go_ret
    exact ⟨by first | rfl | (simp [errW_none, errW_some] <;> rfl) | (simp [*, errW_none, errW_some] <;> rfl) | (simp [errW_none, errW_some, Go.Proofs.YtphabealejpfnaaDoor.listNe]; done), by repeat (first | (with_reducible first | exact HB.out | apply below_alloc | apply pw_below_drewN | apply below_drew1 | refine below_set ?_ GE111.out) | exact HB.out)⟩

/-! ### relation_kind: function 69 -/
mutual
def relation_kind.j0 : Nat → Int → Bool → Option (Int)
  | 0, _, _ => none
  | k + 1, x3, x4 => if x4 = true then (some 1) else (if x3 = 44 then (relation_kind.j1 k x3 (x3 == 44)) else (if x3 = 124 then (relation_kind.j1 k x3 (x3 == 124)) else (if x3 = 40 then (relation_kind.j1 k x3 (x3 == 40)) else (relation_kind.j1 k x3 (x3 == 41)))))
def relation_kind.j1 : Nat → Int → Bool → Option (Int)
  | 0, _, _ => none
  | k + 1, x3, x8 => if x8 = true then (some 2) else (if x3 = 60 then (some 3) else (if x3 = 61 then (some 3) else (if x3 = 62 then (some 3) else (some 0))))
end
def relation_kind.f (k : Nat) (a0 : Int) : Option (Int) := if a0 = 32 then (relation_kind.j0 k a0 (a0 == 32)) else (if a0 = 9 then (relation_kind.j0 k a0 (a0 == 9)) else (relation_kind.j0 k a0 (a0 == 10)))
theorem relation_kind.mono_l : ∀ k, (∀ y0 y1, LeO (relation_kind.j0 k y0 y1) (relation_kind.j0 (k + 1) y0 y1)) ∧ (∀ y0 y1, LeO (relation_kind.j1 k y0 y1) (relation_kind.j1 (k + 1) y0 y1))
  | 0 => ⟨fun _ _ r h => by simp [relation_kind.j0] at h, fun _ _ r h => by simp [relation_kind.j1] at h⟩
  | k + 1 => by
    obtain ⟨ih0, ih1⟩ := relation_kind.mono_l k
    refine ⟨?_, ?_⟩
    · intro y0 y1
      unfold relation_kind.j0
      repeat' first
      | (with_reducible exact ih0 _ _)
      | (with_reducible exact ih1 _ _)
      | (with_reducible exact LeO.refl _)
      | (with_reducible exact LeO.none _)
      | (with_reducible refine LeO.ite ?_ ?_)
      | (with_reducible refine LeO.bind ?_ (fun _ => ?_))
      | exact ih0 _ _
      | exact ih1 _ _
      | exact LeO.none _
      | refine LeO.ite ?_ ?_
      | refine LeO.bind ?_ (fun _ => ?_)
    · intro y0 y1
      unfold relation_kind.j1
      repeat' first
      | (with_reducible exact ih0 _ _)
      | (with_reducible exact ih1 _ _)
      | (with_reducible exact LeO.refl _)
      | (with_reducible exact LeO.none _)
      | (with_reducible refine LeO.ite ?_ ?_)
      | (with_reducible refine LeO.bind ?_ (fun _ => ?_))
      | exact ih0 _ _
      | exact ih1 _ _
      | exact LeO.none _
      | refine LeO.ite ?_ ?_
      | refine LeO.bind ?_ (fun _ => ?_)
theorem relation_kind.mono : ∀ a0 k, LeO (relation_kind.f k a0) (relation_kind.f (k + 1) a0) := by
  intro a0 k
  obtain ⟨ih0, ih1⟩ := relation_kind.mono_l k
  unfold relation_kind.f
  repeat' first
      | (with_reducible exact ih0 _ _)
      | (with_reducible exact ih1 _ _)
      | (with_reducible exact LeO.refl _)
      | (with_reducible exact LeO.none _)
      | (with_reducible refine LeO.ite ?_ ?_)
      | (with_reducible refine LeO.bind ?_ (fun _ => ?_))
      | exact ih0 _ _
      | exact ih1 _ _
      | exact LeO.none _
      | refine LeO.ite ?_ ?_
      | refine LeO.bind ?_ (fun _ => ?_)
set_option maxHeartbeats 8000000 in
set_option maxRecDepth 100000 in
theorem relation_kind.calls (k : Nat) (a0 : Int) (r : Int) (w : World) (h : relation_kind.f k a0 = some r) :
    Calls Tryd.prog 69 #[.int .u8 a0] w fun e w' => e = .returned (.int .i64 r) ∧ Drawn0 w w' := by
  have H : (if a0 = 32 then (relation_kind.j0 k a0 (a0 == 32)) else (if a0 = 9 then (relation_kind.j0 k a0 (a0 == 9)) else (relation_kind.j0 k a0 (a0 == 10)))) = some r := h
  clear h
  have HC2 := Aside0.mk H
  clear H
  go_enter Tryd.func69, Tryd.ntmps69
  go_upto_if 4 with (fail)
  go_cut [4] (fun v4 wc => ∃ (kq : Nat) (x4_1 : Bool), v4 = .bool x4_1 ∧ Aside0 (relation_kind.j0 kq a0 x4_1 = some r) ∧ Aside0 (kq ≤ k) ∧ Drawn0 w wc)
  case first =>
    have H := HC2.out
    clear HC2
    by_cases c3 : a0 = 32
    · rw [if_pos c3] at H
      have c3b0 : (a0 == 32) = true := beq_iff_eq.mpr c3
      have c3b1 : (a0 != 32) = false := bne_eq_false_iff_eq.mpr c3
      clear c3
      (first | rw [c3b0] | (simp only [i64_w, i32_w]; rw [c3b0]) | skip)
      have H' := Aside0.mk H
      clear H
      go_wp2
      go_meet
      case rel => exact ⟨_, ((a0 == 32)), (by first | rfl | (simp; done) | (simp [*]; done)), H', ⟨by first | omega | exact Nat.le_refl _⟩, by repeat (first | exact Drawn0.refl _ | apply Drawn0.step)⟩
    · rw [if_neg c3] at H
      have c3b0 : (a0 == 32) = false := beq_eq_false_iff_ne.mpr c3
      have c3b1 : (a0 != 32) = true := bne_iff_ne.mpr c3
      (first | rw [c3b0] | (simp only [i64_w, i32_w]; rw [c3b0]) | skip)
      by_cases c4 : a0 = 9
      · rw [if_pos c4] at H
        have c4b0 : (a0 == 9) = true := beq_iff_eq.mpr c4
        have c4b1 : (a0 != 9) = false := bne_eq_false_iff_eq.mpr c4
        clear c4
        have H' := Aside0.mk H
        clear H
        go_wp2
        go_meet
        case rel => exact ⟨_, ((a0 == 9)), (by first | rfl | (simp; done) | (simp [*]; done)), H', ⟨by first | omega | exact Nat.le_refl _⟩, by repeat (first | exact Drawn0.refl _ | apply Drawn0.step)⟩
      · rw [if_neg c4] at H
        have c4b0 : (a0 == 9) = false := beq_eq_false_iff_ne.mpr c4
        have c4b1 : (a0 != 9) = true := bne_iff_ne.mpr c4
        have H' := Aside0.mk H
        clear H
        go_wp2
        go_meet
        case rel => exact ⟨_, ((a0 == 10)), (by first | rfl | (simp; done) | (simp [*]; done)), H', ⟨by first | omega | exact Nat.le_refl _⟩, by repeat (first | exact Drawn0.refl _ | apply Drawn0.step)⟩
  case rest =>
    clear HC2
    try clear p2
    try clear c3
    try clear c3b0
    try clear c3b1
    try clear c4
    try clear c4b0
    try clear c4b1
    obtain ⟨kq, x4_1, rfl, HA, HJ1, ⟨mc1, rfl⟩⟩ := hcut
    cases kq with
    | zero => exact absurd HA.out (by simp [relation_kind.j0])
    | succ kj1 =>
      have H := HA.out
      clear HA
      simp only [relation_kind.j0] at H
      by_cases c5 : x4_1 = true
      · subst c5
        have H1 : (some 1) = some r := by rw [if_pos rfl] at H; exact H
        clear H
        have H := H1
        clear H1
        obtain rfl := Option.some.inj H
        go_wp2
        go_ret
        exact ⟨by first | rfl | (simp; done) | (simp [*]; done), by repeat (first | exact Drawn0.refl _ | apply Drawn0.step)⟩
      · replace c5 := Bool.eq_false_iff.mpr c5
        subst c5
        have H1 : (if a0 = 44 then (relation_kind.j1 kj1 a0 (a0 == 44)) else (if a0 = 124 then (relation_kind.j1 kj1 a0 (a0 == 124)) else (if a0 = 40 then (relation_kind.j1 kj1 a0 (a0 == 40)) else (relation_kind.j1 kj1 a0 (a0 == 41))))) = some r := by rw [if_neg (show ¬ (false = true) by decide)] at H; exact H
        clear H
        have H := H1
        clear H1
        have HC6 := Aside0.mk H
        clear H
        go_upto_if 8 with (fail)
        go_cut [8] (fun v8 wc => ∃ (kq : Nat) (x8_5 : Bool), v8 = .bool x8_5 ∧ Aside0 (relation_kind.j1 kq a0 x8_5 = some r) ∧ Aside0 (kq ≤ kj1) ∧ Drawn0 w wc)
        case first =>
          have H := HC6.out
          clear HC6
          by_cases c7 : a0 = 44
          · rw [if_pos c7] at H
            have c7b0 : (a0 == 44) = true := beq_iff_eq.mpr c7
            have c7b1 : (a0 != 44) = false := bne_eq_false_iff_eq.mpr c7
            clear c7
            (first | rw [c7b0] | (simp only [i64_w, i32_w]; rw [c7b0]) | skip)
            have H' := Aside0.mk H
            clear H
            go_wp2
            go_meet
            case rel => exact ⟨_, ((a0 == 44)), (by first | rfl | (simp; done) | (simp [*]; done)), H', ⟨by have := HJ1.out; first | omega | exact Nat.le_refl _⟩, by repeat (first | exact Drawn0.refl _ | apply Drawn0.step)⟩
          · rw [if_neg c7] at H
            have c7b0 : (a0 == 44) = false := beq_eq_false_iff_ne.mpr c7
            have c7b1 : (a0 != 44) = true := bne_iff_ne.mpr c7
            (first | rw [c7b0] | (simp only [i64_w, i32_w]; rw [c7b0]) | skip)
            by_cases c8 : a0 = 124
            · rw [if_pos c8] at H
              have c8b0 : (a0 == 124) = true := beq_iff_eq.mpr c8
              have c8b1 : (a0 != 124) = false := bne_eq_false_iff_eq.mpr c8
              clear c8
              have H' := Aside0.mk H
              clear H
              go_wp2
              go_meet
              case rel => exact ⟨_, ((a0 == 124)), (by first | rfl | (simp; done) | (simp [*]; done)), H', ⟨by have := HJ1.out; first | omega | exact Nat.le_refl _⟩, by repeat (first | exact Drawn0.refl _ | apply Drawn0.step)⟩
            · rw [if_neg c8] at H
              have c8b0 : (a0 == 124) = false := beq_eq_false_iff_ne.mpr c8
              have c8b1 : (a0 != 124) = true := bne_iff_ne.mpr c8
              by_cases c9 : a0 = 40
              · rw [if_pos c9] at H
                have c9b0 : (a0 == 40) = true := beq_iff_eq.mpr c9
                have c9b1 : (a0 != 40) = false := bne_eq_false_iff_eq.mpr c9
                clear c9
                have H' := Aside0.mk H
                clear H
                go_wp2
                go_meet
                case rel => exact ⟨_, ((a0 == 40)), (by first | rfl | (simp; done) | (simp [*]; done)), H', ⟨by have := HJ1.out; first | omega | exact Nat.le_refl _⟩, by repeat (first | exact Drawn0.refl _ | apply Drawn0.step)⟩
              · rw [if_neg c9] at H
                have c9b0 : (a0 == 40) = false := beq_eq_false_iff_ne.mpr c9
                have c9b1 : (a0 != 40) = true := bne_iff_ne.mpr c9
                have H' := Aside0.mk H
                clear H
                go_wp2
                go_meet
                case rel => exact ⟨_, ((a0 == 41)), (by first | rfl | (simp; done) | (simp [*]; done)), H', ⟨by have := HJ1.out; first | omega | exact Nat.le_refl _⟩, by repeat (first | exact Drawn0.refl _ | apply Drawn0.step)⟩
        case rest =>
          clear HC6
          try clear c1
          try clear p2
          try clear c3
          try clear c3b0
          try clear c3b1
          try clear c4
          try clear c4b0
          try clear c4b1
          try clear c5
          try clear c6
          try clear c7
          try clear c7b0
          try clear c7b1
          try clear c8
          try clear c8b0
          try clear c8b1
          try clear c9
          try clear c9b0
          try clear c9b1
          try clear p2
          obtain ⟨kq, x8_5, rfl, HA, HJ5, ⟨mc5, rfl⟩⟩ := hcut
          cases kq with
          | zero => exact absurd HA.out (by simp [relation_kind.j1])
          | succ kj5 =>
            have H := HA.out
            clear HA
            simp only [relation_kind.j1] at H
            by_cases c10 : x8_5 = true
            · subst c10
              have H1 : (some 2) = some r := by rw [if_pos rfl] at H; exact H
              clear H
              have H := H1
              clear H1
              obtain rfl := Option.some.inj H
              go_wp2
              go_ret
              exact ⟨by first | rfl | (simp; done) | (simp [*]; done), by repeat (first | exact Drawn0.refl _ | apply Drawn0.step)⟩
            · replace c10 := Bool.eq_false_iff.mpr c10
              subst c10
              have H1 : (if a0 = 60 then (some 3) else (if a0 = 61 then (some 3) else (if a0 = 62 then (some 3) else (some 0)))) = some r := by rw [if_neg (show ¬ (false = true) by decide)] at H; exact H
              clear H
              have H := H1
              clear H1
              by_cases c11 : a0 = 60
              · rw [if_pos c11] at H
                have c11b0 : (a0 == 60) = true := beq_iff_eq.mpr c11
                have c11b1 : (a0 != 60) = false := bne_eq_false_iff_eq.mpr c11
                clear c11
                obtain rfl := Option.some.inj H
                go_wp2
                go_ret
                exact ⟨by first | rfl | (simp; done) | (simp [*]; done), by repeat (first | exact Drawn0.refl _ | apply Drawn0.step)⟩
              · rw [if_neg c11] at H
                have c11b0 : (a0 == 60) = false := beq_eq_false_iff_ne.mpr c11
                have c11b1 : (a0 != 60) = true := bne_iff_ne.mpr c11
                by_cases c12 : a0 = 61
                · rw [if_pos c12] at H
                  have c12b0 : (a0 == 61) = true := beq_iff_eq.mpr c12
                  have c12b1 : (a0 != 61) = false := bne_eq_false_iff_eq.mpr c12
                  clear c12
                  obtain rfl := Option.some.inj H
                  go_wp2
                  go_ret
                  exact ⟨by first | rfl | (simp; done) | (simp [*]; done), by repeat (first | exact Drawn0.refl _ | apply Drawn0.step)⟩
                · rw [if_neg c12] at H
                  have c12b0 : (a0 == 61) = false := beq_eq_false_iff_ne.mpr c12
                  have c12b1 : (a0 != 61) = true := bne_iff_ne.mpr c12
                  by_cases c13 : a0 = 62
                  · rw [if_pos c13] at H
                    have c13b0 : (a0 == 62) = true := beq_iff_eq.mpr c13
                    have c13b1 : (a0 != 62) = false := bne_eq_false_iff_eq.mpr c13
                    clear c13
                    obtain rfl := Option.some.inj H
                    go_wp2
                    go_ret
                    exact ⟨by first | rfl | (simp; done) | (simp [*]; done), by repeat (first | exact Drawn0.refl _ | apply Drawn0.step)⟩
                  · rw [if_neg c13] at H
                    have c13b0 : (a0 == 62) = false := beq_eq_false_iff_ne.mpr c13
                    have c13b1 : (a0 != 62) = true := bne_iff_ne.mpr c13
                    obtain rfl := Option.some.inj H
                    go_wp2
                    go_ret
                    exact ⟨by first | rfl | (simp; done) | (simp [*]; done), by repeat (first | exact Drawn0.refl _ | apply Drawn0.step)⟩

end Go.Proofs.YtphabealejpfnaaDoor.Z
