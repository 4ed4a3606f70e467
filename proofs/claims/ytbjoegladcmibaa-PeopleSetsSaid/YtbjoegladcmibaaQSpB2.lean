/-
  The document's list of spans, and the line: the same answers (plain).
-/
import Derived.Test.YtbjoegladcmibaaQSpB1
import Derived.Test.YtbjoegladcmibaaQZPeopleSetsx13
import Derived.Test.YtbjoegladcmibaaQZPeopleSetsx12
import Derived.Test.YtbjoegladcmibaaQZPeopleSetsx9
import Derived.Test.YtbjoegladcmibaaQPl2
namespace Go.Proofs.Ytbjoegladcmibaa.SpB
set_option linter.unusedVariables false
set_option linter.unusedSimpArgs false
set_option linter.unnecessarySimpa false
open Go.RowKit Go.Proofs.Ytbjoegladcmibaa.Ln Go.Proofs.Ytbjoegladcmibaa.LnB Go.Proofs.Ytbjoegladcmibaa.ZPeopleSets Go.Proofs.Ytbjoegladcmibaa.Pl Go.Proofs.YtbjoegladcmibaaW.PrintWords Go.Proofs.YtbjoegladcmibaaW.PrintLast

def hd (r : S24) : Held := (r.f0, r.f1, true)
/-- A line, and the document's list of what was set on it. -/
structure Rel (l : List Held) (R : List S24) : Prop where
  srt : Srt l
  perm : l.Perm (R.map hd)
theorem Rel.nil : Rel [] [] := ⟨Srt.nil, List.Perm.refl _⟩
theorem Rel.len {l : List Held} {R : List S24} (h : Rel l R) : l.length = R.length := by rw [h.perm.length_eq, List.length_map]
theorem Rel.mem {l : List Held} {R : List S24} (h : Rel l R) (p : Int → Int → Prop) : (∃ x ∈ l, p x.1 x.2.1) ↔ ∃ r ∈ R, p r.f0 r.f1 := by
  constructor
  · rintro ⟨x, hx, hp⟩
    obtain ⟨r, hr, rfl⟩ := List.mem_map.1 (h.perm.mem_iff.1 hx)
    exact ⟨r, hr, hp⟩
  · rintro ⟨r, hr, hp⟩
    exact ⟨hd r, h.perm.mem_iff.2 (List.mem_map.2 ⟨r, hr, rfl⟩), hp⟩
theorem Rel.set {l : List Held} {R : List S24} (h : Rel l R) {f u : Int} (x : Int) (he : setE l f u = 0) : Rel (setL l f u true) (R ++ [⟨f, u, x⟩]) := by
  refine ⟨set_srt h.srt true he, (set_perm true he).trans ?_⟩
  rw [List.map_append]
  exact (List.Perm.cons _ h.perm).trans (List.perm_append_singleton _ _).symm
theorem rd24 (R : List S24) (i : Nat) : rd_T24 R (i : Int) = R.getD i z24 := by unfold rd_T24; rw [Int.toNat_natCast]
theorem right_f13 (f u : Int) : octroiref13_Right.f f u = some (rightB f u) := by
  unfold octroiref13_Right.f rightB
  by_cases h1 : f ≥ 0
  · rw [if_pos h1]
    by_cases h2 : u ≤ 2932896
    · rw [if_pos h2]
      refine congrArg some ?_
      rw [Bool.eq_iff_iff, decide_eq_true_iff, decide_eq_true_iff]
      omega
    · rw [if_neg h2]
      exact congrArg some (decide_eq_false (fun h => h2 h.2.1)).symm
  · rw [if_neg h1]
    exact congrArg some (decide_eq_false (fun h => h1 h.1)).symm
open Classical in
theorem set_l (R : List S24) (hR : R.length < 100000) (f u x : Int) : ∀ (m k i : Nat), i + m = R.length → m + 1 ≤ k →
    octroiref13_Set.l0 k R 256 (i : Int) f u x = some (if (∃ r ∈ R.drop i, r.f0 ≤ u ∧ f ≤ r.f1) then (R, 50) else if 256 ≤ R.length then (R, 31) else (R ++ [⟨f, u, x⟩], 0))
  | 0, k, i, h1, h2 => by
    obtain ⟨k, rfl⟩ : ∃ q, k = q + 1 := ⟨k - 1, by omega⟩
    have hno : ¬ ∃ r ∈ ([] : List S24), r.f0 ≤ u ∧ f ≤ r.f1 := fun ⟨r, hr, _⟩ => (by simp at hr)
    rw [octroiref13_Set.l0, if_neg (by omega), List.drop_eq_nil_of_le (by omega)]
    by_cases h : 256 ≤ R.length
    · rw [if_pos (show (R.length : Int) ≥ 256 by omega), if_neg hno, if_pos h]
    · rw [if_neg (show ¬ (R.length : Int) ≥ 256 by omega), if_neg hno, if_neg h, Option.bind_some, if_pos (by simp; omega), Option.bind_some, Option.bind_some, if_pos (by simp; omega)]
      simp
  | m + 1, k, i, h1, h2 => by
    obtain ⟨k, rfl⟩ : ∃ q, k = q + 1 := ⟨k - 1, by omega⟩
    rw [octroiref13_Set.l0, if_pos (by omega), if_pos (by omega), rd24, wrapS i (by omega), drop_d R i (by omega) z24]
    have ih := set_l R hR f u x m k (i + 1) (by omega) (by omega)
    generalize R.getD i z24 = r at *
    by_cases a1 : r.f0 ≤ u
    · rw [if_pos a1]
      by_cases a2 : f ≤ r.f1
      · rw [if_pos a2, if_pos ⟨r, List.mem_cons_self .., a1, a2⟩]
      · rw [if_neg a2, ih]
        congr 1
        have : (∃ q ∈ r :: R.drop (i + 1), q.f0 ≤ u ∧ f ≤ q.f1) ↔ ∃ q ∈ R.drop (i + 1), q.f0 ≤ u ∧ f ≤ q.f1 := by
          constructor
          · rintro ⟨q, hq, hp⟩
            rcases List.mem_cons.1 hq with e | hq
            · rw [e] at hp; exact absurd hp.2 a2
            · exact ⟨q, hq, hp⟩
          · rintro ⟨q, hq, hp⟩; exact ⟨q, List.mem_cons_of_mem _ hq, hp⟩
        simp only [this]
    · rw [if_neg a1, ih]
      congr 1
      have : (∃ q ∈ r :: R.drop (i + 1), q.f0 ≤ u ∧ f ≤ q.f1) ↔ ∃ q ∈ R.drop (i + 1), q.f0 ≤ u ∧ f ≤ q.f1 := by
        constructor
        · rintro ⟨q, hq, hp⟩
          rcases List.mem_cons.1 hq with e | hq
          · rw [e] at hp; exact absurd hp.1 a1
          · exact ⟨q, hq, hp⟩
        · rintro ⟨q, hq, hp⟩; exact ⟨q, List.mem_cons_of_mem _ hq, hp⟩
      simp only [this]
theorem set_f {l : List Held} {R : List S24} (h : Rel l R) (hR : R.length < 100000) (f u x : Int) (k : Nat) (hk : R.length + 1 ≤ k) :
    octroiref13_Set.f k R 256 f u x = some (if setE l f u = 0 then R ++ [⟨f, u, x⟩] else R, setE l f u) := by
  unfold octroiref13_Set.f
  rw [right_f13, Option.bind_some]
  have hE : setE l f u = if rightB f u = true then (if clash l f u = true then 50 else if 256 ≤ l.length then 31 else 0) else 30 := rfl
  by_cases hr : rightB f u = true
  · rw [if_pos hr]
    have := set_l R hR f u x R.length k 0 (by omega) hk
    rw [show ((0 : Nat) : Int) = 0 from rfl, List.drop_zero] at this
    rw [this, hE, if_pos hr, h.len]
    have hc : (clash l f u = true) ↔ ∃ r ∈ R, r.f0 ≤ u ∧ f ≤ r.f1 := (clash_iff h.srt hr).trans (h.mem (fun a b => a ≤ u ∧ f ≤ b))
    by_cases h1 : clash l f u = true
    · rw [if_pos (hc.1 h1), if_pos h1]; rfl
    · rw [if_neg (fun e => h1 (hc.2 e)), if_neg h1]
      by_cases h2 : 256 ≤ R.length
      · rw [if_pos h2, if_pos h2]; rfl
      · rw [if_neg h2, if_neg h2]; rfl
  · rw [if_neg hr, hE, if_neg hr]; rfl
open Classical in
theorem at_l (R : List S24) (hR : R.length < 100000) (day : Int) : ∀ (m k i : Nat), i + m = R.length → m + 1 ≤ k → ∃ v, octroiref13_At.l0 k R day (i : Int) = some (v, decide (∃ r ∈ R.drop i, r.f0 ≤ day ∧ day ≤ r.f1))
  | 0, k, i, h1, h2 => by
    obtain ⟨k, rfl⟩ : ∃ q, k = q + 1 := ⟨k - 1, by omega⟩
    rw [octroiref13_At.l0, if_neg (by omega), List.drop_eq_nil_of_le (by omega), decide_eq_false (fun ⟨r, hr, _⟩ => (by simp at hr))]
    exact ⟨_, rfl⟩
  | m + 1, k, i, h1, h2 => by
    obtain ⟨k, rfl⟩ : ∃ q, k = q + 1 := ⟨k - 1, by omega⟩
    rw [octroiref13_At.l0, if_pos (by omega), if_pos (by omega), rd24, wrapS i (by omega), drop_d R i (by omega) z24]
    obtain ⟨v, ih⟩ := at_l R hR day m k (i + 1) (by omega) (by omega)
    generalize R.getD i z24 = r at *
    by_cases a1 : day ≥ r.f0
    · rw [if_pos a1]
      by_cases a2 : day ≤ r.f1
      · rw [if_pos a2, decide_eq_true ⟨r, List.mem_cons_self .., a1, a2⟩]
        exact ⟨_, rfl⟩
      · rw [if_neg a2, ih]
        refine ⟨v, ?_⟩
        congr 2
        rw [decide_eq_decide]
        constructor
        · rintro ⟨q, hq, hp⟩; exact ⟨q, List.mem_cons_of_mem _ hq, hp⟩
        · rintro ⟨q, hq, hp⟩
          rcases List.mem_cons.1 hq with e | hq
          · rw [e] at hp; exact absurd hp.2 a2
          · exact ⟨q, hq, hp⟩
    · rw [if_neg a1, ih]
      refine ⟨v, ?_⟩
      congr 2
      rw [decide_eq_decide]
      constructor
      · rintro ⟨q, hq, hp⟩; exact ⟨q, List.mem_cons_of_mem _ hq, hp⟩
      · rintro ⟨q, hq, hp⟩
        rcases List.mem_cons.1 hq with e | hq
        · rw [e] at hp; exact absurd hp.1 (by omega)
        · exact ⟨q, hq, hp⟩
theorem at_f {l : List Held} {R : List S24} (h : Rel l R) (hR : R.length < 100000) (day : Int) (k : Nat) (hk : R.length + 1 ≤ k) : ∃ v, octroiref13_At.f k R day = some (v, atB l day) := by
  obtain ⟨v, e⟩ := at_l R hR day R.length k 0 (by omega) hk
  rw [show ((0 : Nat) : Int) = 0 from rfl, List.drop_zero] at e
  refine ⟨v, ?_⟩
  unfold octroiref13_At.f
  rw [e]
  congr 2
  rw [Bool.eq_iff_iff, decide_eq_true_iff]
  exact ((at_iff h.srt day).trans (h.mem (fun a b => a ≤ day ∧ day ≤ b))).symm
theorem held_at {l : List Held} {R : List S24} (h : Rel l R) (day : Int) : (atV l day && atB l day) = atB l day := by
  cases hb : atB l day
  · rw [Bool.and_false]
  · rw [Bool.and_true]
    obtain ⟨x, hx, h1, h2⟩ := (at_iff h.srt day).1 hb
    rw [at_val h.srt day hx h1 h2]
    obtain ⟨r, _, rfl⟩ := List.mem_map.1 (h.perm.mem_iff.1 hx)
    rfl
end Go.Proofs.Ytbjoegladcmibaa.SpB
