/-
  Plain Lean: a legal version, and a name, is made of a word's bytes alone, and isn't empty.
-/
import Derived.Test.YtphabealejpfnaaDoorVyNorm
import Derived.Test.YtphabealejpfnaaDoorVyOk
import Derived.Lib.IndexLaws
set_option linter.unusedVariables false
set_option linter.unusedSimpArgs false
namespace Go.Proofs.YtphabealejpfnaaDoor.Model
open Go.RowKit Go.Proofs.YtphabealejpfnaaDoor.V Go.Proofs.YtphabealejpfnaaDoorW.PrintWords Go.Proofs.YtphabealejpfnaaDoorW.PrintLast Go.Proofs.YtphabealejpfnaaDoor.Ver

theorem name_wrd {l : B} (h : nameM l = true) : (∀ x ∈ l, wrdB x = true) ∧ l ≠ [] := by
  unfold nameM at h
  rw [Bool.and_eq_true, decide_eq_true_eq] at h
  refine ⟨?_, fun e => by rw [e] at h; exact absurd h.2 (by decide)⟩
  have key : ∀ (l : B) (f : Bool), nameL f l = true → ∀ x ∈ l, wrdB x = true := by
    intro l
    induction l with
    | nil => intro f _ x hx; cases hx
    | cons c l ih =>
      intro f hf x hx
      rw [nameL, Bool.and_eq_true] at hf
      rcases List.mem_cons.1 hx with q | q
      · rw [q]
        have hb := hf.1
        cases f with
        | true => exact byte_all (P := fun c => namB true c = true → wrdB c = true) (by decide +kernel) c hb
        | false => exact byte_all (P := fun c => namB false c = true → wrdB c = true) (by decide +kernel) c hb
      · exact ih false hf.2 x q
  exact key l true h.1

/-! ### versions -/
/-- A text's byte at a place is a word's. -/
def Wd (s : ByteArray) (j : Nat) : Prop := ∀ h : j < s.size, wrdB (s[j]'h) = true
theorem wd_all {s : ByteArray} (h : ∀ j, j < s.size → Wd s j) : ∀ x ∈ s.data.toList, wrdB x = true := by
  intro x hx
  obtain ⟨j, hj, e⟩ := List.getElem_of_mem hx
  have hj' : j < s.size := by simpa using hj
  have := h j hj' hj'
  rw [← e]
  exact this
theorem ext_byte (s : ByteArray) (a b j : Nat) (h : a + j < b) (hb : b ≤ s.size) : ∃ (h1 : j < (s.extract a b).size) (h2 : a + j < s.size), (s.extract a b)[j]'h1 = s[a + j]'h2 := by
  have h1 : j < (s.extract a b).size := by rw [ByteArray.size_extract]; omega
  exact ⟨h1, by omega, by simp [ByteArray.getElem_extract]⟩
theorem dgt_wrd (c : UInt8) (h : dgt (c.toNat : Int) = true) : wrdB c = true := byte_all (P := fun c => dgt (c.toNat : Int) = true → wrdB c = true) (by decide +kernel) c h
theorem up_wrd (b : Bool) (c : UInt8) (h : refUp b (c.toNat : Int) = true) : wrdB c = true := by
  cases b with
  | true => exact byte_all (P := fun c => refUp true (c.toNat : Int) = true → wrdB c = true) (by decide +kernel) c h
  | false => exact byte_all (P := fun c => refUp false (c.toNat : Int) = true → wrdB c = true) (by decide +kernel) c h
theorem rev_wrd (c : UInt8) (h : refRev (c.toNat : Int) = true) : wrdB c = true := byte_all (P := fun c => refRev (c.toNat : Int) = true → wrdB c = true) (by decide +kernel) c h
theorem all_wd {p : Int → Bool} (hp : ∀ c : UInt8, p (c.toNat : Int) = true → wrdB c = true) {s : ByteArray} (h : allFrom p s s.size 0 = true) : ∀ j, j < s.size → Wd s j := by
  intro j hj h'
  have := (allFrom_iff p s s.size 0).1 h j (Nat.zero_le _) (by omega)
  rw [bt_eq s j hj] at this
  exact hp _ this
theorem lastN_byte (s : ByteArray) (c : Int) : ∀ n, n ≤ s.size → 0 ≤ lastN s c n → bt s (lastN s c n) = c := by
  intro n
  induction n with
  | zero => intro _ h; simp [lastN] at h
  | succ n ih =>
    intro hn h
    unfold lastN at h ⊢
    split
    · assumption
    · rename_i hne
      rw [if_neg hne] at h
      exact ih (by omega) h
theorem colon_byte (s : ByteArray) (h : 0 ≤ colonI s) : ∃ hc : (colonI s).toNat < s.size, s[(colonI s).toNat]'hc = 58 := by
  have hb := colon_bd s
  have hi : Lib.indexByte s.data.toList 58 = ((colonI s).toNat : Int) := by unfold colonI at *; omega
  have h1 := (Lib.indexByte_some hi).1
  have hc : (colonI s).toNat < s.size := by omega
  refine ⟨hc, ?_⟩
  have hl : (colonI s).toNat < s.data.toList.length := by simpa using hc
  rw [List.getElem?_eq_getElem hl] at h1
  exact Option.some.inj h1
/-- From both sides of a byte that is a word's. -/
theorem wd_cut {s : ByteArray} {m : Nat} (hm : m < s.size) (h0 : ∀ j, j < (s.extract 0 m).size → Wd (s.extract 0 m) j) (h1 : wrdB (s[m]'hm) = true) (h2 : ∀ j, j < (s.extract (m + 1) s.size).size → Wd (s.extract (m + 1) s.size) j) : ∀ j, j < s.size → Wd s j := by
  intro j hj h'
  by_cases e : j = m
  · subst e; exact h1
  · by_cases l : j < m
    · obtain ⟨a1, a2, a3⟩ := ext_byte s 0 m j (by omega) (by omega)
      have := h0 j a1 a1
      rw [a3] at this
      simpa using this
    · obtain ⟨a1, a2, a3⟩ := ext_byte s (m + 1) s.size (j - (m + 1)) (by omega) (Nat.le_refl _)
      have := h2 _ a1 a1
      rw [a3] at this
      have e : m + 1 + (j - (m + 1)) = j := by omega
      simpa [e] using this
theorem ver_wrd {s : ByteArray} (h : okS s = true) : (∀ x ∈ s.data.toList, wrdB x = true) ∧ s.data.toList ≠ [] := by
  rw [okS_eq, Bool.and_eq_true, Bool.and_eq_true, Bool.and_eq_true] at h
  obtain ⟨k1, k2, k3, k4⟩ := h
  have w2 := all_wd dgt_wrd k2
  have w3 := all_wd (up_wrd _) k3
  have w4 := all_wd rev_wrd k4
  have hbd := colon_bd s
  have mbd := minus_bd s
  have hbeh : ∀ j, j < (behindS s).size → Wd (behindS s) j := by
    unfold upS upR at w3
    unfold revS revR at w4
    by_cases hm : 0 ≤ minusI s
    · rw [if_pos hm] at w3 w4
      have hlt : (minusI s).toNat < (behindS s).size := by omega
      have hby : wrdB ((behindS s)[(minusI s).toNat]'hlt) = true := by
        have h1 : bt (behindS s) (minusI s) = 45 := lastN_byte (behindS s) 45 _ (Nat.le_refl _) hm
        have e : minusI s = ((minusI s).toNat : Int) := by omega
        rw [e, bt_eq _ _ hlt] at h1
        have : (behindS s)[(minusI s).toNat]'hlt = 45 := toNat_inj.1 (show _ = ((45 : UInt8).toNat : Int) from h1)
        rw [this]; decide
      have e2 : (minusI s + 1).toNat = (minusI s).toNat + 1 := by omega
      rw [e2] at w4
      exact wd_cut hlt w3 hby w4
    · rw [if_neg hm] at w3
      exact w3
  have hall : ∀ j, j < s.size → Wd s j := by
    unfold epochS epochR at w2
    unfold behindS restR at hbeh
    by_cases hc : 0 ≤ colonI s
    · rw [if_pos hc] at w2 hbeh
      obtain ⟨hlt, hby⟩ := colon_byte s hc
      have e2 : (colonI s + 1).toNat = (colonI s).toNat + 1 := by omega
      rw [e2] at hbeh
      exact wd_cut hlt w2 (by rw [hby]; decide) hbeh
    · rw [if_neg hc] at hbeh
      exact hbeh
  refine ⟨wd_all hall, fun e => ?_⟩
  have hz : s.size = 0 := by
    have : s.data.toList.length = 0 := by rw [e]; rfl
    simpa using this
  unfold ok1 at k1
  rw [Bool.and_eq_true, Bool.and_eq_true] at k1
  have hu := k1.1.2
  have h1 := (sub_le (behindS s) (minusI s)).1
  have h2 := behind_le s
  have : (upS s).size = 0 := by unfold upS; omega
  rw [(empty_of (upS s)).2 this] at hu
  exact absurd hu (by decide)
end Go.Proofs.YtphabealejpfnaaDoor.Model
