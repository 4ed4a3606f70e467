/-
  Spans that are apart and in order: what find, At and Set come to (plain).
-/
import Derived.Test.YtbjoegladcmibaaQLnI5
namespace Go.Proofs.Ytbjoegladcmibaa.SpI
set_option linter.unusedVariables false
set_option linter.unusedSimpArgs false
set_option linter.unnecessarySimpa false
open Go.Proofs.Ytbjoegladcmibaa.Ln Go.Proofs.Ytbjoegladcmibaa.LnI

theorem bs_spec (p : Nat → Bool) (n : Nat) (mono : ∀ a b, a < b → b < n → p b = true → p a = true) : ∀ (f i j : Nat), i ≤ j → j ≤ n → j - i < f → (∀ h, h < i → p h = true) → (∀ h, j ≤ h → h < n → p h = false) →
    bsF p f i j ≤ n ∧ (∀ h, h < bsF p f i j → p h = true) ∧ (∀ h, bsF p f i j ≤ h → h < n → p h = false)
  | 0, i, j, h1, h2, h3, h4, h5 => by omega
  | f + 1, i, j, h1, h2, h3, h4, h5 => by
    unfold bsF
    by_cases hij : i < j
    · rw [if_pos hij]
      by_cases hp : p ((i + j) / 2) = true
      · rw [if_pos hp]
        refine bs_spec p n mono f _ j (by omega) h2 (by omega) (fun h hh => ?_) h5
        rcases Nat.lt_or_ge h ((i + j) / 2) with hl | hl
        · exact mono h _ hl (by omega) hp
        · have : h = (i + j) / 2 := by omega
          rw [this]; exact hp
      · rw [if_neg hp]
        have hp' : p ((i + j) / 2) = false := by simpa using hp
        refine bs_spec p n mono f i _ (by omega) (by omega) (by omega) h4 (fun h hh hn => ?_)
        rcases Nat.lt_or_ge ((i + j) / 2) h with hl | hl
        · cases hq : p h
          · rfl
          · exact absurd (mono _ h hl hn hq) hp
        · have : h = (i + j) / 2 := by omega
          rw [this]; exact hp'
    · rw [if_neg hij]
      exact ⟨by omega, h4, fun h hh => h5 h (by omega)⟩
/-- In order, and apart; each a right span. -/
structure Srt (l : List Held) : Prop where
  apart : l.Pairwise (fun a b => a.2.1 < b.1)
  right : ∀ x ∈ l, 0 ≤ x.1 ∧ x.1 ≤ x.2.1 ∧ x.2.1 ≤ 2932896
theorem Srt.nil : Srt [] := ⟨List.Pairwise.nil, fun x hx => by simp at hx⟩
theorem Srt.get {l : List Held} (h : Srt l) {i j : Nat} (hi : i < j) (hj : j < l.length) : (l[i]'(by omega)).2.1 < l[j].1 := List.pairwise_iff_getElem.1 h.apart i j (by omega) hj hi
theorem ends_at (l : List Held) (day : Int) (h : Nat) (hh : h < l.length) : ends l day h = decide (l[h].2.1 < day) := by
  unfold ends
  rw [List.getD_eq_getElem?_getD, List.getElem?_eq_getElem hh]
  rfl
theorem find_spec {l : List Held} (hs : Srt l) (day : Int) : find l day ≤ l.length ∧ (∀ h (hh : h < l.length), h < find l day → l[h].2.1 < day) ∧ (∀ h (hh : h < l.length), find l day ≤ h → day ≤ l[h].2.1) := by
  have hb := bs_spec (ends l day) l.length (fun a b hab hbn hp => by
    rw [ends_at l day b hbn] at hp
    rw [ends_at l day a (by omega)]
    have h1 := hs.get hab hbn
    have h2 := (hs.right l[b] (List.getElem_mem hbn)).2.1
    have h3 := of_decide_eq_true hp
    exact decide_eq_true (by omega)) (l.length + 1) 0 l.length (Nat.zero_le _) (Nat.le_refl _) (by omega) (fun h hh => absurd hh (Nat.not_lt_zero _)) (fun h hh hn => by omega)
  obtain ⟨b1, b2, b3⟩ := hb
  refine ⟨b1, fun h hh hl => ?_, fun h hh hl => ?_⟩
  · have := b2 h hl
    rw [ends_at l day h hh] at this
    exact of_decide_eq_true this
  · have := b3 h hl hh
    rw [ends_at l day h hh] at this
    have := of_decide_eq_false this
    omega
theorem at_iff {l : List Held} (hs : Srt l) (day : Int) : atB l day = true ↔ ∃ x ∈ l, x.1 ≤ day ∧ day ≤ x.2.1 := by
  obtain ⟨f1, f2, f3⟩ := find_spec hs day
  unfold atB
  by_cases hl : find l day < l.length
  · rw [dif_pos hl]
    by_cases hd : day < l[find l day].1
    · rw [if_pos hd]
      refine ⟨fun h => (by cases h), fun ⟨x, hx, x1, x2⟩ => ?_⟩
      obtain ⟨j, hj, rfl⟩ := List.getElem_of_mem hx
      rcases Nat.lt_trichotomy j (find l day) with h | h | h
      · have := f2 j hj h; omega
      · subst h; omega
      · have h1 := hs.get h hj
        have h2 := (hs.right _ (List.getElem_mem hl)).2.1
        omega
    · rw [if_neg hd]
      exact ⟨fun _ => ⟨_, List.getElem_mem hl, by omega, f3 _ hl (Nat.le_refl _)⟩, fun _ => rfl⟩
  · rw [dif_neg hl]
    refine ⟨fun h => (by cases h), fun ⟨x, hx, x1, x2⟩ => ?_⟩
    obtain ⟨j, hj, rfl⟩ := List.getElem_of_mem hx
    have := f2 j hj (by omega)
    omega
theorem at_val {l : List Held} (hs : Srt l) (day : Int) {x : Held} (hx : x ∈ l) (h1 : x.1 ≤ day) (h2 : day ≤ x.2.1) : atV l day = x.2.2 := by
  obtain ⟨f1, f2, f3⟩ := find_spec hs day
  obtain ⟨j, hj, rfl⟩ := List.getElem_of_mem hx
  have hle : find l day ≤ j := by
    rcases Nat.lt_or_ge j (find l day) with h | h
    · have := f2 j hj h; omega
    · exact h
  have hl : find l day < l.length := by omega
  have he : find l day = j := by
    rcases Nat.lt_or_ge (find l day) j with h | h
    · have a1 := hs.get h hj
      have a2 := f3 _ hl (Nat.le_refl _)
      omega
    · omega
  unfold atV
  rw [dif_pos hl]
  have e2 : l[find l day] = l[j] := by congr 1
  rw [e2, if_neg (by omega)]
theorem right_iff (f u : Int) : rightB f u = true ↔ 0 ≤ f ∧ u ≤ 2932896 ∧ f ≤ u := by unfold rightB; exact decide_eq_true_iff
theorem clash_iff {l : List Held} (hs : Srt l) {f u : Int} (hr : rightB f u = true) : clash l f u = true ↔ ∃ x ∈ l, x.1 ≤ u ∧ f ≤ x.2.1 := by
  obtain ⟨f1, f2, f3⟩ := find_spec hs f
  have hr' := (right_iff f u).1 hr
  unfold clash
  by_cases hl : find l f < l.length
  · rw [dif_pos hl]
    have hx := hs.right _ (List.getElem_mem hl)
    have hu := f3 _ hl (Nat.le_refl _)
    have hxr : rightB l[find l f].1 l[find l f].2.1 = true := (right_iff _ _).2 ⟨hx.1, hx.2.2, hx.2.1⟩
    unfold meetB
    rw [hxr, hr, Bool.true_and, Bool.true_and, right_iff]
    constructor
    · intro h
      refine ⟨_, List.getElem_mem hl, ?_, hu⟩
      split at h <;> split at h <;> omega
    · rintro ⟨x, hx1, x1, x2⟩
      obtain ⟨j, hj, rfl⟩ := List.getElem_of_mem hx1
      have hge : find l f ≤ j := by
        rcases Nat.lt_or_ge j (find l f) with h | h
        · have := f2 j hj h; omega
        · exact h
      have hle : l[find l f].1 ≤ u := by
        rcases Nat.lt_or_ge (find l f) j with h | h
        · have a1 := hs.get h hj
          omega
        · have e : find l f = j := by omega
          have e2 : l[find l f] = l[j] := by congr 1
          rw [e2]; exact x1
      split <;> split <;> omega
  · rw [dif_neg hl]
    refine ⟨fun h => (by cases h), fun ⟨x, hx1, x1, x2⟩ => ?_⟩
    obtain ⟨j, hj, rfl⟩ := List.getElem_of_mem hx1
    have := f2 j hj (by omega)
    omega
theorem set_ok {l : List Held} {f u : Int} (he : setE l f u = 0) : rightB f u = true ∧ clash l f u = false ∧ l.length < 256 := by
  unfold setE at he
  by_cases h1 : rightB f u = true
  · rw [if_pos h1] at he
    by_cases h2 : clash l f u = true
    · rw [if_pos h2] at he; cases he
    · rw [if_neg h2] at he
      by_cases h3 : 256 ≤ l.length
      · rw [if_pos h3] at he; cases he
      · exact ⟨h1, by simpa using h2, by omega⟩
  · rw [if_neg h1] at he; cases he
theorem set_perm {l : List Held} {f u : Int} (x : Int) (he : setE l f u = 0) : (setL l f u x).Perm ((f, u, x) :: l) := by
  unfold setL
  rw [if_pos he]
  have : (l.take (find l f) ++ (f, u, x) :: l.drop (find l f)).Perm ((f, u, x) :: (l.take (find l f) ++ l.drop (find l f))) := List.perm_middle
  rwa [List.take_append_drop] at this
theorem set_srt {l : List Held} (hs : Srt l) {f u : Int} (x : Int) (he : setE l f u = 0) : Srt (setL l f u x) := by
  obtain ⟨hr, hc, _⟩ := set_ok he
  have hr' := (right_iff f u).1 hr
  obtain ⟨f1, f2, f3⟩ := find_spec hs f
  have hnc : ∀ y ∈ l, u < y.1 ∨ y.2.1 < f := fun y hy => by
    by_cases h : y.1 ≤ u ∧ f ≤ y.2.1
    · have := (clash_iff hs hr).2 ⟨y, hy, h.1, h.2⟩
      rw [hc] at this; cases this
    · omega
  refine ⟨?_, fun y hy => ?_⟩
  · unfold setL
    rw [if_pos he, List.pairwise_append]
    have hd := hs.apart
    rw [← List.take_append_drop (find l f) l, List.pairwise_append] at hd
    obtain ⟨d1, d2, d3⟩ := hd
    have hdrop : ∀ y ∈ l.drop (find l f), u < y.1 := fun y hy => by
      obtain ⟨j, hj, e⟩ := List.getElem_of_mem hy
      rw [List.getElem_drop] at e
      rw [List.length_drop] at hj
      have a1 := f3 (find l f + j) (by omega) (by omega)
      rw [e] at a1
      rcases hnc y (List.mem_of_mem_drop hy) with h | h
      · exact h
      · omega
    have htake : ∀ y ∈ l.take (find l f), y.2.1 < f := fun y hy => by
      obtain ⟨j, hj, e⟩ := List.getElem_of_mem hy
      rw [List.getElem_take] at e
      rw [List.length_take] at hj
      have a1 := f2 j (by omega) (by omega)
      rw [e] at a1
      exact a1
    refine ⟨d1, List.pairwise_cons.2 ⟨hdrop, d2⟩, fun a ha b hb => ?_⟩
    rcases List.mem_cons.1 hb with e | hb
    · rw [e]; exact htake a ha
    · exact d3 a ha b hb
  · rcases List.mem_cons.1 ((set_perm x he).mem_iff.1 hy) with e | hy
    · rw [e]; exact ⟨hr'.1, hr'.2.2, hr'.2.1⟩
    · exact hs.right y hy
end Go.Proofs.Ytbjoegladcmibaa.SpI
