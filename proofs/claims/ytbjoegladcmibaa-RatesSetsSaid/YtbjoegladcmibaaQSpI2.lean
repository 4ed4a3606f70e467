/-
  The document's rates, and the lines: the same answers (plain).
-/
import Derived.Test.YtbjoegladcmibaaQSpI1
import Derived.Test.YtbjoegladcmibaaQRt4
import Derived.Test.YtbjoegladcmibaaQVRatesSetsx12
import Derived.Test.YtbjoegladcmibaaQVRatesSetsx6
import Derived.Test.YtbjoegladcmibaaQVRatesSetsx5
import Derived.Test.YtbjoegladcmibaaQPRatesApartx1
namespace Go.Proofs.Ytbjoegladcmibaa.SpI
set_option linter.unusedVariables false
set_option linter.unusedSimpArgs false
set_option linter.unnecessarySimpa false
set_option maxRecDepth 1000000
open Go.RowKit Go.Proofs.Ytbjoegladcmibaa.Ln Go.Proofs.Ytbjoegladcmibaa.LnI Go.Proofs.Ytbjoegladcmibaa.Rt Go.Proofs.Ytbjoegladcmibaa.VRatesSets Go.Proofs.YtbjoegladcmibaaW.PrintWords Go.Proofs.YtbjoegladcmibaaW.PrintLast

def hd (r : S24) : Held := (r.f0, r.f1, r.f2)
theorem ba_ext {a b : ByteArray} (h : a.toList = b.toList) : a = b := by
  have e : a.data.toList = b.data.toList := by rwa [ByteArray.toList_eq, ByteArray.toList_eq] at h
  cases a
  cases b
  congr 1
  exact Array.ext' e
theorem rdS (l : List ByteArray) (i : Nat) : rdOf ByteArray.empty l (i : Int) = l.getD i ByteArray.empty := by unfold rdOf; rw [Int.toNat_natCast]
theorem drop_d {α : Type} (l : List α) (i : Nat) (h : i < l.length) (d : α) : l.drop i = l.getD i d :: l.drop (i + 1) := by
  rw [List.drop_eq_getElem_cons h, List.getD_eq_getElem?_getD, List.getElem?_eq_getElem h]
  rfl
theorem wrapS (i : Nat) (h : i < 1000000000) : wrap64 ((i : Int) + 1) = ((i + 1 : Nat) : Int) := by unfold wrap64; omega
/-- A line, and the document's list of what was set on it. -/
structure Rel (l : List Held) (R : List S24) : Prop where
  srt : Srt l
  perm : l.Perm (R.map hd)
theorem Rel.nil : Rel [] [] := ⟨Srt.nil, List.Perm.refl _⟩
theorem Rel.len {l : List Held} {R : List S24} (h : Rel l R) : l.length = R.length := by rw [h.perm.length_eq, List.length_map]
theorem Rel.mem {l : List Held} {R : List S24} (h : Rel l R) (p : Int → Int → Prop) : (∃ x ∈ l, p x.1 x.2.1) ↔ ∃ r ∈ R, p r.f0 r.f1 := by
  constructor
  · rintro ⟨x, hx, hp⟩
    obtain ⟨r, hr, rfl⟩ := List.mem_map.1 (h.perm.mem_iff.1 hx)
    exact ⟨r, hr, hp⟩
  · rintro ⟨r, hr, hp⟩
    exact ⟨hd r, h.perm.mem_iff.2 (List.mem_map.2 ⟨r, hr, rfl⟩), hp⟩
theorem Rel.set {l : List Held} {R : List S24} (h : Rel l R) {f u : Int} (x : Int) (he : setE l f u = 0) : Rel (setL l f u x) (R ++ [⟨f, u, x⟩]) := by
  refine ⟨set_srt h.srt x he, (set_perm x he).trans ?_⟩
  rw [List.map_append]
  exact (List.Perm.cons _ h.perm).trans (List.perm_append_singleton _ _).symm
theorem rd24 (R : List S24) (i : Nat) : rd_T24 R (i : Int) = R.getD i z24 := by unfold rd_T24; rw [Int.toNat_natCast]
theorem right_f13 (f u : Int) : octroiref13_Right.f f u = some (rightB f u) := by
  unfold octroiref13_Right.f rightB
  by_cases h1 : f ≥ 0
  · rw [if_pos h1]
    by_cases h2 : u ≤ 2932896
    · rw [if_pos h2]
      refine congrArg some ?_
      rw [Bool.eq_iff_iff, decide_eq_true_iff, decide_eq_true_iff]
      omega
    · rw [if_neg h2]
      exact congrArg some (decide_eq_false (fun h => h2 h.2.1)).symm
  · rw [if_neg h1]
    exact congrArg some (decide_eq_false (fun h => h1 h.1)).symm
open Classical in
theorem set_l (R : List S24) (hR : R.length < 100000) (f u x : Int) : ∀ (m k i : Nat), i + m = R.length → m + 1 ≤ k →
    octroiref13_Set.l0 k R 256 (i : Int) f u x = some (if (∃ r ∈ R.drop i, r.f0 ≤ u ∧ f ≤ r.f1) then (R, 50) else if 256 ≤ R.length then (R, 31) else (R ++ [⟨f, u, x⟩], 0))
  | 0, k, i, h1, h2 => by
    obtain ⟨k, rfl⟩ : ∃ q, k = q + 1 := ⟨k - 1, by omega⟩
    have hno : ¬ ∃ r ∈ ([] : List S24), r.f0 ≤ u ∧ f ≤ r.f1 := fun ⟨r, hr, _⟩ => (by simp at hr)
    rw [octroiref13_Set.l0, if_neg (by omega), List.drop_eq_nil_of_le (by omega)]
    by_cases h : 256 ≤ R.length
    · rw [if_pos (show (R.length : Int) ≥ 256 by omega), if_neg hno, if_pos h]
    · rw [if_neg (show ¬ (R.length : Int) ≥ 256 by omega), if_neg hno, if_neg h, Option.bind_some, if_pos (by simp; omega), Option.bind_some, Option.bind_some, if_pos (by simp; omega)]
      simp
  | m + 1, k, i, h1, h2 => by
    obtain ⟨k, rfl⟩ : ∃ q, k = q + 1 := ⟨k - 1, by omega⟩
    rw [octroiref13_Set.l0, if_pos (by omega), if_pos (by omega), rd24, wrapS i (by omega), drop_d R i (by omega) z24]
    have ih := set_l R hR f u x m k (i + 1) (by omega) (by omega)
    generalize R.getD i z24 = r at *
    by_cases a1 : r.f0 ≤ u
    · rw [if_pos a1]
      by_cases a2 : f ≤ r.f1
      · rw [if_pos a2, if_pos ⟨r, List.mem_cons_self .., a1, a2⟩]
      · rw [if_neg a2, ih]
        congr 1
        have : (∃ q ∈ r :: R.drop (i + 1), q.f0 ≤ u ∧ f ≤ q.f1) ↔ ∃ q ∈ R.drop (i + 1), q.f0 ≤ u ∧ f ≤ q.f1 := by
          constructor
          · rintro ⟨q, hq, hp⟩
            rcases List.mem_cons.1 hq with e | hq
            · rw [e] at hp; exact absurd hp.2 a2
            · exact ⟨q, hq, hp⟩
          · rintro ⟨q, hq, hp⟩; exact ⟨q, List.mem_cons_of_mem _ hq, hp⟩
        simp only [this]
    · rw [if_neg a1, ih]
      congr 1
      have : (∃ q ∈ r :: R.drop (i + 1), q.f0 ≤ u ∧ f ≤ q.f1) ↔ ∃ q ∈ R.drop (i + 1), q.f0 ≤ u ∧ f ≤ q.f1 := by
        constructor
        · rintro ⟨q, hq, hp⟩
          rcases List.mem_cons.1 hq with e | hq
          · rw [e] at hp; exact absurd hp.1 a1
          · exact ⟨q, hq, hp⟩
        · rintro ⟨q, hq, hp⟩; exact ⟨q, List.mem_cons_of_mem _ hq, hp⟩
      simp only [this]
theorem set_f {l : List Held} {R : List S24} (h : Rel l R) (hR : R.length < 100000) (f u x : Int) (k : Nat) (hk : R.length + 1 ≤ k) :
    octroiref13_Set.f k R 256 f u x = some (if setE l f u = 0 then R ++ [⟨f, u, x⟩] else R, setE l f u) := by
  unfold octroiref13_Set.f
  rw [right_f13, Option.bind_some]
  have hE : setE l f u = if rightB f u = true then (if clash l f u = true then 50 else if 256 ≤ l.length then 31 else 0) else 30 := rfl
  by_cases hr : rightB f u = true
  · rw [if_pos hr]
    have := set_l R hR f u x R.length k 0 (by omega) hk
    rw [show ((0 : Nat) : Int) = 0 from rfl, List.drop_zero] at this
    rw [this, hE, if_pos hr, h.len]
    have hc : (clash l f u = true) ↔ ∃ r ∈ R, r.f0 ≤ u ∧ f ≤ r.f1 := (clash_iff h.srt hr).trans (h.mem (fun a b => a ≤ u ∧ f ≤ b))
    by_cases h1 : clash l f u = true
    · rw [if_pos (hc.1 h1), if_pos h1]; rfl
    · rw [if_neg (fun e => h1 (hc.2 e)), if_neg h1]
      by_cases h2 : 256 ≤ R.length
      · rw [if_pos h2, if_pos h2]; rfl
      · rw [if_neg h2, if_neg h2]; rfl
  · rw [if_neg hr, hE, if_neg hr]; rfl

theorem at_l (R : List S24) (hR : R.length < 100000) (day : Int) : ∀ (m k i : Nat), i + m = R.length → m + 1 ≤ k → ∃ v b, octroiref13_At.l0 k R day (i : Int) = some (v, b) ∧ ((b = false ∧ v = 0 ∧ ∀ r ∈ R.drop i, ¬ (r.f0 ≤ day ∧ day ≤ r.f1)) ∨ (b = true ∧ ∃ r ∈ R.drop i, r.f0 ≤ day ∧ day ≤ r.f1 ∧ v = r.f2))
  | 0, k, i, h1, h2 => by
    obtain ⟨k, rfl⟩ : ∃ q, k = q + 1 := ⟨k - 1, by omega⟩
    rw [octroiref13_At.l0, if_neg (by omega), List.drop_eq_nil_of_le (by omega)]
    exact ⟨_, _, rfl, Or.inl ⟨rfl, rfl, fun r hr => (by simp at hr)⟩⟩
  | m + 1, k, i, h1, h2 => by
    obtain ⟨k, rfl⟩ : ∃ q, k = q + 1 := ⟨k - 1, by omega⟩
    rw [octroiref13_At.l0, if_pos (by omega), if_pos (by omega), rd24, wrapS i (by omega), drop_d R i (by omega) z24]
    obtain ⟨v, b, ih, hb⟩ := at_l R hR day m k (i + 1) (by omega) (by omega)
    generalize R.getD i z24 = r at *
    have next : ¬ (r.f0 ≤ day ∧ day ≤ r.f1) → ((b = false ∧ v = 0 ∧ ∀ q ∈ r :: R.drop (i + 1), ¬ (q.f0 ≤ day ∧ day ≤ q.f1)) ∨ (b = true ∧ ∃ q ∈ r :: R.drop (i + 1), q.f0 ≤ day ∧ day ≤ q.f1 ∧ v = q.f2)) := fun hn => by
      rcases hb with ⟨b1, b2, b3⟩ | ⟨b1, q, hq, b3⟩
      · refine Or.inl ⟨b1, b2, fun q hq => ?_⟩
        rcases List.mem_cons.1 hq with e | hq
        · rw [e]; exact hn
        · exact b3 q hq
      · exact Or.inr ⟨b1, q, List.mem_cons_of_mem _ hq, b3⟩
    by_cases a1 : day ≥ r.f0
    · rw [if_pos a1]
      by_cases a2 : day ≤ r.f1
      · rw [if_pos a2]
        exact ⟨_, _, rfl, Or.inr ⟨rfl, r, List.mem_cons_self .., a1, a2, rfl⟩⟩
      · rw [if_neg a2, ih]
        exact ⟨v, b, rfl, next (fun h => a2 h.2)⟩
    · rw [if_neg a1, ih]
      exact ⟨v, b, rfl, next (fun h => a1 h.1)⟩
theorem at_f {l : List Held} {R : List S24} (h : Rel l R) (hR : R.length < 100000) (day : Int) (k : Nat) (hk : R.length + 1 ≤ k) : octroiref13_At.f k R day = some (if atB l day = true then atV l day else 0, atB l day) := by
  obtain ⟨v, b, e, hb⟩ := at_l R hR day R.length k 0 (by omega) hk
  rw [show ((0 : Nat) : Int) = 0 from rfl] at e
  rw [List.drop_zero] at hb
  unfold octroiref13_At.f
  rw [e]
  rcases hb with ⟨b1, b2, b3⟩ | ⟨b1, r, hr, r1, r2, r3⟩
  · have hno : atB l day = false := by
      cases hq : atB l day
      · rfl
      · obtain ⟨r, hr, hp⟩ := ((at_iff h.srt day).trans (h.mem (fun a b => a ≤ day ∧ day ≤ b))).1 hq
        exact absurd hp (b3 r hr)
    rw [hno, b1, b2, if_neg (by simp)]
  · have hmem : hd r ∈ l := h.perm.mem_iff.2 (List.mem_map.2 ⟨r, hr, rfl⟩)
    have hyes : atB l day = true := (at_iff h.srt day).2 ⟨hd r, hmem, r1, r2⟩
    rw [hyes, b1, r3, if_pos rfl, at_val h.srt day hmem r1 r2]
    rfl
/-! ### a member state -/
def mems : List ByteArray := (PRatesApart.vatid_Members.f).getD []
theorem members_f : octroiref07_Members.f 500 = some mems := by kernel_rfl
theorem members_p : PRatesApart.vatid_Members.f = some mems := by kernel_rfl
theorem mems_len : mems.length = 27 := by kernel_rfl
theorem member_l (c : ByteArray) (l : List ByteArray) (hl : l.length < 1000) : ∀ (m k i : Nat), i + m = l.length → m + 1 ≤ k → octroiref07_Member.l0 k c l (i : Int) = some ((l.drop i).any (fun x => decide (c = x)))
  | 0, k, i, h1, h2 => by
    obtain ⟨k, rfl⟩ : ∃ q, k = q + 1 := ⟨k - 1, by omega⟩
    rw [octroiref07_Member.l0, if_neg (by omega), List.drop_eq_nil_of_le (by omega)]
    simp
  | m + 1, k, i, h1, h2 => by
    obtain ⟨k, rfl⟩ : ∃ q, k = q + 1 := ⟨k - 1, by omega⟩
    rw [octroiref07_Member.l0, if_pos (by omega), if_pos (by omega), rdS, wrapS i (by omega), drop_d l i (by omega) ByteArray.empty]
    by_cases h : (l.getD i ByteArray.empty).toList = c.toList
    · rw [if_pos h, ba_ext h]
      simp
    · rw [if_neg h, member_l c l hl m k (i + 1) (by omega) (by omega)]
      have hne : c ≠ l.getD i ByteArray.empty := fun e => h (by rw [e])
      rw [List.any_cons, decide_eq_false hne, Bool.false_or]
theorem index_l (c : ByteArray) (l : List ByteArray) (hl : l.length < 1000) : ∀ (m k i : Nat), i + m = l.length → m + 1 ≤ k → ∃ r : Int, PRatesApart.slices_Index_string_string.l0 k l c (l.length : Int) (i : Int) = some r ∧ (0 ≤ r ↔ (l.drop i).any (fun x => decide (c = x)) = true)
  | 0, k, i, h1, h2 => by
    obtain ⟨k, rfl⟩ : ∃ q, k = q + 1 := ⟨k - 1, by omega⟩
    rw [PRatesApart.slices_Index_string_string.l0, if_neg (by omega), List.drop_eq_nil_of_le (by omega)]
    exact ⟨_, rfl, by simp⟩
  | m + 1, k, i, h1, h2 => by
    obtain ⟨k, rfl⟩ : ∃ q, k = q + 1 := ⟨k - 1, by omega⟩
    rw [PRatesApart.slices_Index_string_string.l0, if_pos (by omega), if_pos (by omega), if_pos (by omega), rdS, wrapS i (by omega), drop_d l i (by omega) ByteArray.empty]
    by_cases h : c.toList = (l.getD i ByteArray.empty).toList
    · rw [if_pos h]
      exact ⟨_, rfl, by rw [ba_ext h]; simp⟩
    · rw [if_neg h]
      obtain ⟨r, e1, e2⟩ := index_l c l hl m k (i + 1) (by omega) (by omega)
      have hne : c ≠ l.getD i ByteArray.empty := fun e => h (by rw [← e])
      exact ⟨r, e1, by rw [e2, List.any_cons, decide_eq_false hne, Bool.false_or]⟩
theorem mem_b (c : ByteArray) : memB c = mems.any (fun x => decide (c = x)) := by
  have h := member_f c
  unfold PRatesApart.vatid_Member.f PRatesApart.slices_Contains_string_string.f PRatesApart.slices_Index_string_string.f at h
  rw [members_p, Option.bind_some] at h
  obtain ⟨r, e1, e2⟩ := index_l c mems (by rw [mems_len]; omega) 27 40 0 (by rw [mems_len]) (by omega)
  rw [show ((0 : Nat) : Int) = 0 from rfl] at e1
  rw [e1] at h
  rw [List.drop_zero] at e2
  simp only [Option.bind_some, Option.some.injEq] at h
  rw [← h, Bool.eq_iff_iff, ← e2]
  simp
theorem member_r (c : ByteArray) (k : Nat) (hk : k = 500) : octroiref07_Member.f k c = some (memB c) := by
  subst hk
  unfold octroiref07_Member.f
  rw [members_f, Option.bind_some, mem_b]
  have := member_l c mems (by rw [mems_len]; omega) 27 500 0 (by rw [mems_len]) (by omega)
  rw [List.drop_zero] at this
  exact this

end Go.Proofs.Ytbjoegladcmibaa.SpI
