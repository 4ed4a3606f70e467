/-
  vatid and its reference: the same answers (plain).
-/
import Derived.Test.YtbjoegladcmibaaQZPeopleSetsx11
import Derived.Test.YtbjoegladcmibaaQVi4
namespace Go.Proofs.Ytbjoegladcmibaa.Pl
set_option linter.unusedVariables false
set_option linter.unusedSimpArgs false
set_option linter.unnecessarySimpa false
set_option maxRecDepth 1000000
open Go.RowKit Go.Proofs.Ytbjoegladcmibaa.ZPeopleSets Go.Proofs.YtbjoegladcmibaaW.PrintWords Go.Proofs.YtbjoegladcmibaaW.PrintLast Go.Proofs.Ytbjoegladcmibaa.Vi Go.Proofs.Ytbjoegladcmibaa.Ln

theorem ba_ext {a b : ByteArray} (h : a.toList = b.toList) : a = b := ba_of_list (by rwa [ByteArray.toList_eq, ByteArray.toList_eq] at h)
theorem rdS (l : List ByteArray) (i : Nat) : rdOf ByteArray.empty l (i : Int) = l.getD i ByteArray.empty := by unfold rdOf; rw [Int.toNat_natCast]
theorem drop_d {α : Type} (l : List α) (i : Nat) (h : i < l.length) (d : α) : l.drop i = l.getD i d :: l.drop (i + 1) := by
  rw [List.drop_eq_getElem_cons h, List.getD_eq_getElem?_getD, List.getElem?_eq_getElem h]
  rfl
theorem wrapS (i : Nat) (h : i < 1000000000) : wrap64 ((i : Int) + 1) = ((i + 1 : Nat) : Int) := by unfold wrap64; omega
/-! ### a member state -/
def mems : List ByteArray := formsL.reverse.map (·.1)
theorem members_f : octroiref07_Members.f 500 = some mems := by kernel_rfl
theorem members_p : PRatesApart.vatid_Members.f = some mems := by kernel_rfl
theorem member_l (c : ByteArray) (l : List ByteArray) (hl : l.length < 1000) : ∀ (m k i : Nat), i + m = l.length → m + 1 ≤ k → octroiref07_Member.l0 k c l (i : Int) = some ((l.drop i).any (fun x => decide (c = x)))
  | 0, k, i, h1, h2 => by
    obtain ⟨k, rfl⟩ : ∃ q, k = q + 1 := ⟨k - 1, by omega⟩
    rw [octroiref07_Member.l0, if_neg (by omega), List.drop_eq_nil_of_le (by omega)]
    simp
  | m + 1, k, i, h1, h2 => by
    obtain ⟨k, rfl⟩ : ∃ q, k = q + 1 := ⟨k - 1, by omega⟩
    rw [octroiref07_Member.l0, if_pos (by omega), if_pos (by omega), rdS, wrapS i (by omega), drop_d l i (by omega) ByteArray.empty]
    by_cases h : (l.getD i ByteArray.empty).toList = c.toList
    · rw [if_pos h, ba_ext h]
      simp
    · rw [if_neg h, member_l c l hl m k (i + 1) (by omega) (by omega)]
      have hne : c ≠ l.getD i ByteArray.empty := fun e => h (by rw [e])
      rw [List.any_cons, decide_eq_false hne, Bool.false_or]
theorem index_l (c : ByteArray) (l : List ByteArray) (hl : l.length < 1000) : ∀ (m k i : Nat), i + m = l.length → m + 1 ≤ k → ∃ r : Int, PRatesApart.slices_Index_string_string.l0 k l c (l.length : Int) (i : Int) = some r ∧ (0 ≤ r ↔ (l.drop i).any (fun x => decide (c = x)) = true)
  | 0, k, i, h1, h2 => by
    obtain ⟨k, rfl⟩ : ∃ q, k = q + 1 := ⟨k - 1, by omega⟩
    rw [PRatesApart.slices_Index_string_string.l0, if_neg (by omega), List.drop_eq_nil_of_le (by omega)]
    exact ⟨_, rfl, by simp⟩
  | m + 1, k, i, h1, h2 => by
    obtain ⟨k, rfl⟩ : ∃ q, k = q + 1 := ⟨k - 1, by omega⟩
    rw [PRatesApart.slices_Index_string_string.l0, if_pos (by omega), if_pos (by omega), if_pos (by omega), rdS, wrapS i (by omega), drop_d l i (by omega) ByteArray.empty]
    by_cases h : c.toList = (l.getD i ByteArray.empty).toList
    · rw [if_pos h]
      exact ⟨_, rfl, by rw [ba_ext h]; simp⟩
    · rw [if_neg h]
      obtain ⟨r, e1, e2⟩ := index_l c l hl m k (i + 1) (by omega) (by omega)
      have hne : c ≠ l.getD i ByteArray.empty := fun e => h (by rw [← e])
      exact ⟨r, e1, by rw [e2, List.any_cons, decide_eq_false hne, Bool.false_or]⟩
theorem mem_b (c : ByteArray) : memB c = mems.any (fun x => decide (c = x)) := by
  have h := member_f c
  unfold PRatesApart.vatid_Member.f PRatesApart.slices_Contains_string_string.f PRatesApart.slices_Index_string_string.f at h
  rw [members_p, Option.bind_some] at h
  obtain ⟨r, e1, e2⟩ := index_l c mems (by decide) 27 40 0 (by decide) (by omega)
  rw [show ((0 : Nat) : Int) = 0 from rfl] at e1
  rw [e1] at h
  rw [List.drop_zero] at e2
  simp only [Option.bind_some, Option.some.injEq] at h
  rw [← h, Bool.eq_iff_iff, ← e2]
  simp
theorem member_r (c : ByteArray) (k : Nat) (hk : k = 500) : octroiref07_Member.f k c = some (memB c) := by
  subst hk
  unfold octroiref07_Member.f
  rw [members_f, Option.bind_some, mem_b]
  have := member_l c mems (by decide) 27 500 0 (by decide) (by omega)
  rw [List.drop_zero] at this
  exact this
end Go.Proofs.Ytbjoegladcmibaa.Pl
