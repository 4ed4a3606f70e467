/-
  vatid.Right and its reference: the same answers (plain).
-/
import Derived.Test.YtbjoegladcmibaaQPl1
import Derived.Test.YtbjoegladcmibaaQZPeopleSetsx11
namespace Go.Proofs.Ytbjoegladcmibaa.Pl
set_option linter.unusedVariables false
set_option linter.unusedSimpArgs false
set_option linter.unnecessarySimpa false
set_option maxRecDepth 1000000
open Go.RowKit Go.Proofs.Ytbjoegladcmibaa.ZPeopleSets Go.Proofs.YtbjoegladcmibaaW.PrintWords Go.Proofs.YtbjoegladcmibaaW.PrintLast Go.Proofs.Ytbjoegladcmibaa.Vi Go.Proofs.Ytbjoegladcmibaa.Ln

theorem up {α : Type} {F : Nat → Option α} (hm : ∀ k, LeO (F k) (F (k + 1))) {a : Nat} {r : α} (h : F a = some r) : ∀ {k : Nat}, a ≤ k → F k = some r := by
  intro k hk
  obtain ⟨d, rfl⟩ : ∃ d, k = a + d := ⟨k - a, by omega⟩
  clear hk
  induction d with
  | zero => exact h
  | succ d ih => exact hm _ _ ih
theorem member_up (c : ByteArray) {k : Nat} (hk : 500 ≤ k) : octroiref07_Member.f k c = some (memB c) := up (fun k => octroiref07_Member.mono c k) (member_r c 500 rfl) hk
theorem forms_all : mems.all (fun c => decide (octroiref07_Forms.f 1500 c = some (formsOf c))) = true := by kernel_rfl
theorem forms_up (c : ByteArray) (hc : memB c = true) {k : Nat} (hk : 1500 ≤ k) : octroiref07_Forms.f k c = some (formsOf c) := by
  rw [mem_b, List.any_eq_true] at hc
  obtain ⟨x, hx, e⟩ := hc
  have e' : c = x := of_decide_eq_true e
  subst e'
  exact up (fun k => octroiref07_Forms.mono c k) (of_decide_eq_true (List.all_eq_true.1 forms_all c hx)) hk
theorem letter_f (a : Int) : octroiref07_Letter.f a = some (letterB a) := by
  unfold octroiref07_Letter.f letterB
  by_cases h : a ≥ 65
  · rw [if_pos h, decide_eq_true (show 65 ≤ a from h), Bool.true_and]
  · rw [if_neg h, decide_eq_false (show ¬ 65 ≤ a from h), Bool.false_and]
theorem digit_f (a : Int) : octroiref07_Digit.f a = some (digitB a) := by
  unfold octroiref07_Digit.f digitB
  by_cases h : a ≥ 48
  · rw [if_pos h, decide_eq_true (show 48 ≤ a from h), Bool.true_and]
  · rw [if_neg h, decide_eq_false (show ¬ 48 ≤ a from h), Bool.false_and]
theorem bt_at (s : ByteArray) (i : Nat) : bt s (i : Int) = byteAt s i := by
  unfold bt
  by_cases h : (i : Int).toNat < s.size
  · rw [dif_pos h, byteAt_of s i (by omega)]
    rfl
  · rw [dif_neg h]
    unfold byteAt
    have hl : ¬ i < s.data.toList.length := by rw [Array.length_toList]; intro x; apply h; rw [Int.toNat_natCast]; exact x
    rw [List.getD_eq_getElem?_getD, List.getElem?_eq_none (by omega)]
    rfl
theorem country_f (c : ByteArray) : octroiref07_Country.f c = some (countryB c) := by
  unfold octroiref07_Country.f countryB
  by_cases h : c.size = 2
  · rw [if_pos (by omega), if_pos (by omega), letter_f, Option.bind_some, decide_eq_true h, Bool.true_and, show (0 : Int) = ((0 : Nat) : Int) from rfl, bt_at]
    cases letterB (byteAt c 0)
    · rw [if_neg (by decide), Bool.false_and]
    · rw [if_pos rfl, if_pos (by omega), letter_f, Option.bind_some, Bool.true_and, show (1 : Int) = ((1 : Nat) : Int) from rfl, bt_at]
  · rw [if_neg (by omega), decide_eq_false h, Bool.false_and]
theorem fits_f (a b : Int) : octroiref07_fits.f a b = some (standsB a b) := by
  unfold octroiref07_fits.f standsB
  simp only [letter_f, digit_f, Option.bind_some]
  by_cases h1 : a = 57
  · subst h1; rfl
  · rw [if_neg h1]
    by_cases h2 : a = 65
    · subst h2; rfl
    · rw [if_neg h2]
      by_cases h3 : a = 88
      · subst h3
        show _ = some (letterB b || digitB b)
        rw [if_pos rfl]
        cases letterB b <;> rfl
      · rw [if_neg h3]
        by_cases h4 : a = 43
        · subst h4
          rw [if_pos rfl, if_pos rfl]
          cases letterB b
          · cases digitB b
            · rw [if_neg (by decide), if_neg (by decide)]
              by_cases h5 : b = 43
              · subst h5; rfl
              · rw [if_neg h5, beq_eq_false_iff_ne.2 h5]; simp
            · simp
          · simp
        · rw [if_neg h4, if_neg h4, if_neg h3, if_neg h2, if_neg h1]
theorem range_all_split (p : Nat → Bool) (j m : Nat) : (List.range (j + m)).all p = ((List.range j).all p && (List.range m).all (fun q => p (j + q))) := by
  rw [List.range_add, List.all_append, List.all_map]
  rfl
/-- The rest of a form fits. -/
def fitR (f n : ByteArray) (j : Nat) : Bool := (List.range (n.size - j)).all (fun q => standsB (byteAt f (j + q)) (byteAt n (j + q)))
theorem fitR_step (f n : ByteArray) (j : Nat) (h : j < n.size) : fitR f n j = (standsB (byteAt f j) (byteAt n j) && fitR f n (j + 1)) := by
  unfold fitR
  obtain ⟨m, hm⟩ : ∃ m, n.size - j = m + 1 := ⟨n.size - j - 1, by omega⟩
  rw [hm, show n.size - (j + 1) = m by omega, Nat.add_comm m 1, range_all_split]
  have e : ∀ q, j + (1 + q) = j + 1 + q := fun q => by omega
  simp only [e, show List.range 1 = [0] from rfl, List.all_cons, List.all_nil, Bool.and_true, Nat.add_zero]
theorem fitR_end (f n : ByteArray) (j : Nat) (h : n.size ≤ j) : fitR f n j = true := by
  unfold fitR
  rw [show n.size - j = 0 by omega]
  rfl
theorem fitB_R (f n : ByteArray) : fitB f n = (decide (f.size = n.size) && fitR f n 0) := by
  unfold fitB fitR
  by_cases h : f.size = n.size
  · rw [decide_eq_true h, h]; simp
  · rw [decide_eq_false h, Bool.false_and, Bool.false_and]
theorem right_l2 (n : ByteArray) (F : List ByteArray) (hn : n.size < 1000000) (i : Nat) (hi : i < F.length) (hF : F.length < 1000) (B : Nat) (R : Bool) (hR : ∀ k, B ≤ k → octroiref07_Right.l1 k n F ((i + 1 : Nat) : Int) = some R) :
    ∀ (m k j : Nat) (ok : Bool), j + m = n.size → B + m + 1 ≤ k → (ok = true → (F.getD i ByteArray.empty).size = n.size) → octroiref07_Right.l2 k n F (i : Int) ok (j : Int) = some ((ok && fitR (F.getD i ByteArray.empty) n j) || R)
  | 0, k, j, ok, h1, h2, h3 => by
    obtain ⟨k, rfl⟩ : ∃ q, k = q + 1 := ⟨k - 1, by omega⟩
    rw [octroiref07_Right.l2, if_neg (by omega), fitR_end _ _ _ (by omega), Bool.and_true, wrapS i (by omega), hR k (by omega)]
    cases ok <;> rfl
  | m + 1, k, j, ok, h1, h2, h3 => by
    obtain ⟨k, rfl⟩ : ∃ q, k = q + 1 := ⟨k - 1, by omega⟩
    rw [octroiref07_Right.l2, if_pos (by omega)]
    cases ok
    · rw [if_neg (by decide), wrapS i (by omega), hR k (by omega), Bool.false_and, Bool.false_or]
    · have hs := h3 rfl
      rw [if_pos rfl, if_pos (by omega), if_pos (by omega), if_pos (by omega), rdS, if_pos (by omega), bt_at, bt_at, fits_f, Option.bind_some, wrapS j (by omega)]
      rw [right_l2 n F hn i hi hF B R hR m k (j + 1) _ (by omega) (by omega) (fun _ => hs), fitR_step (F.getD i ByteArray.empty) n j (by omega), Bool.true_and]
theorem right_l1 (n : ByteArray) (F : List ByteArray) (hn : n.size < 1000000) (hF : F.length < 1000) : ∀ (m k i : Nat), i + m = F.length → (m + 1) * (n.size + 3) ≤ k → octroiref07_Right.l1 k n F (i : Int) = some ((F.drop i).any (fun f => fitB f n))
  | 0, k, i, h1, h2 => by
    obtain ⟨k, rfl⟩ : ∃ q, k = q + 1 := ⟨k - 1, by omega⟩
    rw [octroiref07_Right.l1, if_neg (by omega), List.drop_eq_nil_of_le (by omega)]
    rfl
  | m + 1, k, i, h1, h2 => by
    have e : (m + 1 + 1) * (n.size + 3) = (m + 1) * (n.size + 3) + (n.size + 3) := by rw [Nat.succ_mul]
    rw [e] at h2
    obtain ⟨k, rfl⟩ : ∃ q, k = q + 1 := ⟨k - 1, by omega⟩
    have hR : ∀ k, (m + 1) * (n.size + 3) ≤ k → octroiref07_Right.l1 k n F ((i + 1 : Nat) : Int) = some ((F.drop (i + 1)).any (fun f => fitB f n)) := fun k hk => right_l1 n F hn hF m k (i + 1) (by omega) hk
    have hl2 := right_l2 n F hn i (by omega) hF _ _ hR n.size k 0 (((F.getD i ByteArray.empty).size : Int) == (n.size : Int)) (by omega) (by omega) (fun hh => by have := beq_iff_eq.1 hh; omega)
    rw [octroiref07_Right.l1, if_pos (by omega), if_pos (by omega), rdS, show (0 : Int) = ((0 : Nat) : Int) from rfl, hl2, drop_d F i (by omega) ByteArray.empty, List.any_cons, fitB_R]
    congr 2
    by_cases hs : (F.getD i ByteArray.empty).size = n.size
    · rw [decide_eq_true hs, hs]; simp
    · rw [decide_eq_false hs, beq_eq_false_iff_ne.2 (by omega)]
theorem right_l0 (n : ByteArray) (hn : n.size < 1000000) : ∀ (m k j : Nat), j + m = n.size → m + 1 ≤ k → octroiref07_Right.l0 k n (j : Int) = some ((List.range m).all (fun q => standsB 88 (byteAt n (j + q))) && (decide (1 ≤ n.size) && decide (n.size ≤ 20)))
  | 0, k, j, h1, h2 => by
    obtain ⟨k, rfl⟩ : ∃ q, k = q + 1 := ⟨k - 1, by omega⟩
    rw [octroiref07_Right.l0, if_neg (by omega)]
    by_cases h : 1 ≤ n.size
    · rw [if_pos (by omega), decide_eq_true h]
      simp
      omega
    · rw [if_neg (by omega), decide_eq_false h]
      simp
  | m + 1, k, j, h1, h2 => by
    obtain ⟨k, rfl⟩ : ∃ q, k = q + 1 := ⟨k - 1, by omega⟩
    rw [octroiref07_Right.l0, if_pos (by omega), if_pos (by omega), bt_at, letter_f, Option.bind_some, wrapS j (by omega), digit_f, Option.bind_some]
    rw [right_l0 n hn m k (j + 1) (by omega) (by omega)]
    have e : (List.range (m + 1)).all (fun q => standsB 88 (byteAt n (j + q))) = (standsB 88 (byteAt n j) && (List.range m).all (fun q => standsB 88 (byteAt n (j + 1 + q)))) := by
      rw [Nat.add_comm m 1, range_all_split]
      have e : ∀ q, j + (1 + q) = j + 1 + q := fun q => by omega
      simp only [e, show List.range 1 = [0] from rfl, List.all_cons, List.all_nil, Bool.and_true, Nat.add_zero]
    have es : standsB 88 (byteAt n j) = (letterB (byteAt n j) || digitB (byteAt n j)) := rfl
    rw [e, es]
    cases letterB (byteAt n j)
    · cases digitB (byteAt n j)
      · rw [if_neg (by decide), if_neg (by decide)]; rfl
      · rw [if_neg (by decide), if_pos rfl]; rfl
    · rw [if_pos rfl]; rfl
/-- The document's answer. -/
theorem right_f (c n : ByteArray) (hn : n.size ≤ 1000) {k : Nat} (hk : 110000 ≤ k) : octroiref07_Right.f k c n = some (ridB c n) := by
  unfold octroiref07_Right.f ridB
  rw [country_f, Option.bind_some]
  cases countryB c
  · rw [if_neg (by decide), Bool.false_and]
  · rw [if_pos rfl, member_up c (by omega), Option.bind_some, Bool.true_and]
    cases hm : memB c
    · rw [if_neg (by decide), if_neg (by decide)]
      have := right_l0 n (by omega) n.size k 0 (by omega) (by omega)
      rw [show ((0 : Nat) : Int) = 0 from rfl] at this
      rw [this, Bool.and_comm]
      simp
    · rw [if_pos rfl, if_pos rfl, forms_up c hm (by omega), Option.bind_some]
      have hlen := forms_of_len c
      have hb : ((formsOf c).length + 1) * (n.size + 3) ≤ 101 * 1003 := Nat.mul_le_mul (by omega) (by omega)
      have := right_l1 n (formsOf c) (by omega) (by omega) (formsOf c).length k 0 (by omega) (by omega)
      rw [show ((0 : Nat) : Int) = 0 from rfl, List.drop_zero] at this
      rw [this]
      rfl
end Go.Proofs.Ytbjoegladcmibaa.Pl
