/-
  The reference's words of the syntax: names, what is right, what is good.
-/
import Derived.Test.YtmkalnljclhigaaGreatQCk1
import Derived.Test.YtmkalnljclhigaaGreatQCh33
import Derived.Test.YtmkalnljclhigaaGreatQXCheckerChecksx14
namespace Go.Proofs.YtmkalnljclhigaaGreat.Ch
set_option linter.unusedVariables false
set_option linter.unusedSimpArgs false
set_option linter.unnecessarySimpa false
open Go.RowKit Go.Maps Go.Proofs.YtmkalnljclhigaaGreatK Go.Proofs.YtmkalnljclhigaaGreat.XCheckerChecks Go.Proofs.YtmkalnljclhigaaGreatW.PrintWords Go.Proofs.YtmkalnljclhigaaGreatW.PrintLast Go.Sort

theorem keyR (s : ByteArray) : octroiref30_Keyword.f s = some (keyB s) := by
  unfold keyB octroiref30_Keyword.f lexer_Keyword.f
  by_cases h1 : s.toList = ([98, 111, 120] : List UInt8)
  · rw [if_pos h1, if_pos h1]; rfl
  rw [if_neg h1, if_neg h1]
  by_cases h2 : s.toList = ([115, 117, 109] : List UInt8)
  · rw [if_pos h2, if_pos h2]; rfl
  rw [if_neg h2, if_neg h2]
  by_cases h3 : s.toList = ([109, 105, 110] : List UInt8)
  · rw [if_pos h3, if_pos h3]; rfl
  rw [if_neg h3, if_neg h3]
  by_cases h4 : s.toList = ([109, 97, 120] : List UInt8)
  · rw [if_pos h4, if_pos h4]; rfl
  rw [if_neg h4, if_neg h4]
  by_cases h5 : s.toList = ([99, 108, 97, 109, 112] : List UInt8)
  · rw [if_pos h5, h5]; rfl
  · rw [if_neg h5]
    simp only [Option.getD_some]
    rw [beq_eq_false_iff_ne.2 h5]
def lettersB (s : ByteArray) : Nat → Nat → Bool
  | 0, _ => true
  | q + 1, i => decide (97 ≤ bt s i ∧ bt s i ≤ 122) && lettersB s q (i + 1)
theorem bt_at (s : ByteArray) (i : Nat) (h : i < s.size) : bt s (i : Int) = ((s[i]'h).toNat : Int) := by
  unfold bt
  simp only [Int.toNat_natCast]
  rw [dif_pos h]
theorem letters_iff (s : ByteArray) : ∀ (q i : Nat), i + q = s.size → (lettersB s q i = true ↔ ∀ j, i ≤ j → (h : j < s.size) → 97 ≤ (s[j]'h).toNat ∧ (s[j]'h).toNat ≤ 122)
  | 0, i, h => by
    rw [lettersB]
    exact ⟨fun _ j h1 h2 => by omega, fun _ => rfl⟩
  | q + 1, i, h => by
    have hi : i < s.size := by omega
    rw [lettersB, Bool.and_eq_true, decide_eq_true_eq, letters_iff s q (i + 1) (by omega), bt_at s i hi]
    constructor
    · rintro ⟨h1, h2⟩ j h3 h4
      by_cases e : j = i
      · subst e; omega
      · exact h2 j (by omega) h4
    · intro h1
      have := h1 i (Nat.le_refl _) hi
      exact ⟨by omega, fun j h3 h4 => h1 j (by omega) h4⟩
theorem letters_out (s : ByteArray) : lettersB s s.size 0 = !outIn s := by
  have h1 := letters_iff s s.size 0 (by omega)
  have h2 := out_iff s
  cases ho : outIn s with
  | false =>
    rw [ho] at h2
    exact h1.2 (fun j _ hj => h2.1 rfl j hj)
  | true =>
    rw [ho] at h2
    cases hl : lettersB s s.size 0 with
    | false => rfl
    | true =>
      rw [hl] at h1
      exact absurd (h2.2 (fun i hi => h1.1 rfl i (Nat.zero_le _) hi)) (by decide)
def tailN (s : ByteArray) : Bool := decide (1 ≤ s.size) && decide (s.size ≤ 32) && !keyB s
theorem name_l (s : ByteArray) (hs : s.size ≤ 140737488351232) : ∀ (q i : Nat), i + q = s.size → octroiref31_Name.l0 (q + 1) s (i : Int) = some (lettersB s q i && tailN s)
  | 0, i, h => by
    rw [octroiref31_Name.l0, if_neg (by omega), lettersB, Bool.true_and]
    unfold tailN
    by_cases h1 : 1 ≤ s.size
    · rw [if_pos (by omega), decide_eq_true h1, Bool.true_and]
      by_cases h2 : s.size ≤ 32
      · rw [if_pos (by omega), keyR, decide_eq_true h2]; rfl
      · rw [if_neg (by omega), decide_eq_false h2]; rfl
    · rw [if_neg (by omega), decide_eq_false h1]; rfl
  | q + 1, i, h => by
    rw [octroiref31_Name.l0, if_pos (by omega), if_pos (by omega), lettersB]
    by_cases h1 : bt s (i : Int) < 97
    · rw [if_pos h1, decide_eq_false (by omega)]; rfl
    · rw [if_neg h1]
      by_cases h2 : bt s (i : Int) > 122
      · rw [if_pos h2, decide_eq_false (by omega)]; rfl
      · rw [if_neg h2, decide_eq_true (by omega), wrapF i (by omega), name_l s hs q (i + 1) (by omega), Bool.true_and]
theorem nameB_eq (s : ByteArray) : nameB s = (lettersB s s.size 0 && tailN s) := by
  unfold nameB tailN
  rw [letters_out]
  by_cases h1 : s.size < 1
  · rw [if_pos h1, decide_eq_false (by omega)]; simp
  rw [if_neg h1, decide_eq_true (by omega : 1 ≤ s.size)]
  by_cases h2 : 32 < s.size
  · rw [if_pos h2, decide_eq_false (by omega)]; simp
  rw [if_neg h2, decide_eq_true (by omega : s.size ≤ 32)]
  cases keyB s <;> cases outIn s <;> rfl
theorem name_f (s : ByteArray) (hs : s.size ≤ 140737488351232) : ∃ a, octroiref31_Name.f a s = some (nameB s) := ⟨s.size + 1, by rw [octroiref31_Name.f, nameB_eq]; exact name_l s hs s.size 0 (by omega)⟩
theorem name_up {s : ByteArray} {r : Bool} {a k : Nat} (h : octroiref31_Name.f a s = some r) (hk : a ≤ k) : octroiref31_Name.f k s = some r := up (fun k => octroiref31_Name.mono _ k) h hk
theorem numR (n : Int) : octroiref31_number.f n = some (numB n) := by
  unfold octroiref31_number.f numB
  by_cases h : n ≥ 0
  · rw [if_pos h]
    refine congrArg some ?_
    rw [decide_eq_decide]
    exact ⟨fun h2 => ⟨h, h2⟩, fun h2 => h2.2⟩
  · rw [if_neg h]
    exact congrArg some (decide_eq_false (fun h2 => h h2.1)).symm
theorem boxR (n : Int) : octroiref31_BoxNumber.f n = some (boxedB n) := by
  unfold octroiref31_BoxNumber.f boxedB
  by_cases h : n ≥ 1
  · rw [if_pos h]
    refine congrArg some ?_
    rw [decide_eq_decide]
    exact ⟨fun h2 => ⟨h, h2⟩, fun h2 => h2.2⟩
  · rw [if_neg h]
    exact congrArg some (decide_eq_false (fun h2 => h h2.1)).symm
def manyB (k : Int) : Int := if (kidsB k).2 = true then (kidsB k).1 else -1
theorem many_f (k : Int) : octroiref31_many.f 3 k = some (manyB k) := by
  unfold octroiref31_many.f manyB kidsB
  by_cases h1 : k = 1
  · subst h1; rfl
  by_cases h2 : k = 2
  · subst h2; rfl
  by_cases h3 : k = 3
  · subst h3; rfl
  by_cases h4 : k = 4
  · subst h4; rfl
  by_cases h5 : k = 5
  · subst h5; rfl
  by_cases h6 : k = 6
  · subst h6; rfl
  by_cases h7 : k = 7
  · subst h7; rfl
  by_cases h8 : k = 8
  · subst h8; rfl
  by_cases h9 : k = 9
  · subst h9; rfl
  simp [octroiref31_many.j0, octroiref31_many.j1, h1, h2, h3, h4, h5, h6, h7, h8, h9]
theorem many_up {n r : Int} {a k : Nat} (h : octroiref31_many.f a n = some r) (hk : a ≤ k) : octroiref31_many.f k n = some r := up (fun k => octroiref31_many.mono _ k) h hk
end Go.Proofs.YtmkalnljclhigaaGreat.Ch
