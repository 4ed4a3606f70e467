/-
  Plain words: what stands in a text; rising lists.
-/
import Derived.Test.YtmkalnljclhigaaGreatQChB
import Derived.Laws.RangeAny
namespace Go.Proofs.YtmkalnljclhigaaGreat.Ch
set_option linter.unusedVariables false
set_option linter.unusedSimpArgs false
set_option linter.unnecessarySimpa false
open Go.RowKit Go.Maps Go.Proofs.YtmkalnljclhigaaGreatK Go.Proofs.YtmkalnljclhigaaGreat.XCheckerChecks Go.Proofs.YtmkalnljclhigaaGreatW.PrintWords Go.Proofs.YtmkalnljclhigaaGreatW.PrintLast Go.Sort

/-! ### letters -/
abbrev outP (r : Nat) : Bool := decide (r < 97) || decide (122 < r)
theorem idx_out (s : ByteArray) : ∀ (f pos : Nat), s.size - pos ≤ f → (Lib.idxFuncFrom outP true s f pos = -1 ↔ ∀ i, pos ≤ i → (h : i < s.size) → outP (s[i]'h).toNat = false)
  | 0, pos, hf => by
    rw [Lib.idxFuncFrom]
    exact ⟨fun _ i h1 h2 => by omega, fun _ => rfl⟩
  | f + 1, pos, hf => by
    rw [Lib.idxFuncFrom]
    by_cases hp : pos < s.size
    · rw [if_pos hp]
      by_cases ha : (s[pos]'hp).toNat < 128
      · rw [decode_ascii s pos hp ha]
        cases ho : outP (s[pos]'hp).toNat with
        | true =>
          rw [if_pos rfl]
          exact ⟨fun h => by omega, fun h => by rw [h pos (Nat.le_refl _) hp] at ho; cases ho⟩
        | false =>
          rw [if_neg (by decide), idx_out s f (pos + 1) (by omega)]
          refine ⟨fun h i h1 h2 => ?_, fun h i h1 h2 => h i (by omega) h2⟩
          by_cases e : i = pos
          · subst e; exact ho
          · exact h i (by omega) h2
      · have hd := (decode_high s pos hp (by omega)).1
        have ho : outP (Utf8.decode s pos).1 = true := by unfold outP; simp; omega
        rw [if_pos ho]
        refine ⟨fun h => by omega, fun h => ?_⟩
        have := h pos (Nat.le_refl _) hp
        unfold outP at this
        simp at this
        omega
    · rw [if_neg hp]
      exact ⟨fun _ i h1 h2 => by omega, fun _ => rfl⟩
theorem out_iff (s : ByteArray) : outIn s = false ↔ ∀ i, (h : i < s.size) → 97 ≤ (s[i]'h).toNat ∧ (s[i]'h).toNat ≤ 122 := by
  unfold outIn
  have h1 := idx_out s s.size 0 (by omega)
  have h2 := Lib.idxFunc_range outP true s
  have e : Lib.idxFuncFrom outP true s s.size 0 = Lib.idxFunc outP true s := rfl
  rw [e] at h1
  rw [decide_eq_false_iff_not]
  constructor
  · intro h i hi
    have := h1.1 (by rcases h2 with h2 | h2; exact h2; exact absurd h2.1 h) i (Nat.zero_le _) hi
    unfold outP at this
    simp at this
    omega
  · intro h
    rw [h1.2 (fun i _ hi => by have := h i hi; unfold outP; simp; omega)]
    decide
/-! ### rising lists -/
theorem rise_ext : ∀ (a b : List Int), a.Pairwise (· < ·) → b.Pairwise (· < ·) → (∀ x, x ∈ a ↔ x ∈ b) → a = b
  | [], [], _, _, _ => rfl
  | [], y :: ys, _, _, h => by have := (h y).2 List.mem_cons_self; cases this
  | x :: xs, [], _, _, h => by have := (h x).1 List.mem_cons_self; cases this
  | x :: xs, y :: ys, ha, hb, h => by
    rw [List.pairwise_cons] at ha hb
    have hxy : x = y := by
      have h1 := (h x).1 List.mem_cons_self
      have h2 := (h y).2 List.mem_cons_self
      rcases List.mem_cons.1 h1 with e | h1
      · exact e
      rcases List.mem_cons.1 h2 with e | h2
      · exact e.symm
      have := ha.1 _ h2
      have := hb.1 _ h1
      omega
    subst hxy
    rw [rise_ext xs ys ha.2 hb.2 (fun z => ?_)]
    have hz := h z
    simp only [List.mem_cons] at hz
    constructor
    · intro hm
      rcases hz.1 (.inr hm) with e | e
      · subst e; have := ha.1 _ hm; omega
      · exact e
    · intro hm
      rcases hz.2 (.inr hm) with e | e
      · subst e; have := hb.1 _ hm; omega
      · exact e
theorem sortI_le (l : List Int) : (sortI l).Pairwise (· ≤ ·) := by
  have h := List.pairwise_mergeSort (le := fun x y : Int => decide (x ≤ y)) (fun a b c h1 h2 => by simp at *; omega) (fun a b => by simp; omega) l
  exact h.imp (fun h => by simpa using h)
theorem sortI_mem {l : List Int} {x : Int} : x ∈ sortI l ↔ x ∈ l := by unfold sortI; exact List.mem_mergeSort
theorem sortI_nodup {l : List Int} (h : l.Nodup) : (sortI l).Pairwise (· < ·) := by
  have h1 := sortI_le l
  have h2 : (sortI l).Nodup := (List.mergeSort_perm l _).nodup_iff.2 h
  exact (h1.and h2).imp (fun ⟨a, b⟩ => by omega)
theorem compact_up (d : Array Int) (hs : ∀ i j, i ≤ j → j < d.size → d[i]! ≤ d[j]!) : ∀ m, m ≤ d.size → (Lib.compactUpTo d m).Pairwise (· < ·) ∧ (∀ x, x ∈ Lib.compactUpTo d m ↔ ∃ j, j < m ∧ d[j]! = x)
  | 0, _ => by simp [Lib.compactUpTo]
  | m + 1, hm => by
    obtain ⟨h1, h2⟩ := compact_up d hs m (by omega)
    rw [Lib.compactUpTo_succ]
    cases hk : Lib.keeps d m with
    | true =>
      have hlt : ∀ x ∈ Lib.compactUpTo d m, x < d[m]! := fun x hx => by
        obtain ⟨j, hj, rfl⟩ := (h2 x).1 hx
        unfold Lib.keeps at hk
        have hk := of_decide_eq_true hk
        rcases hk with hk | hk
        · omega
        · have a1 := hs j (m - 1) (by omega) (by omega)
          have a2 := hs (m - 1) m (by omega) (by omega)
          omega
      rw [if_pos rfl]
      refine ⟨List.pairwise_append.2 ⟨h1, by simp, fun a ha b hb => ?_⟩, fun x => ?_⟩
      · rw [List.mem_singleton] at hb; subst hb; exact hlt a ha
      · rw [List.mem_append, h2, List.mem_singleton]
        constructor
        · rintro (⟨j, hj, e⟩ | e)
          · exact ⟨j, by omega, e⟩
          · exact ⟨m, by omega, e.symm⟩
        · rintro ⟨j, hj, e⟩
          by_cases hjm : j = m
          · subst hjm; exact .inr e.symm
          · exact .inl ⟨j, by omega, e⟩
    | false =>
      rw [if_neg (by decide), List.append_nil]
      refine ⟨h1, fun x => ?_⟩
      rw [h2]
      constructor
      · rintro ⟨j, hj, e⟩; exact ⟨j, by omega, e⟩
      · rintro ⟨j, hj, e⟩
        by_cases hjm : j = m
        · subst hjm
          unfold Lib.keeps at hk
          have hk := of_decide_eq_false hk
          have h0 : j ≠ 0 := fun e => hk (.inl e)
          have he : d[j]! = d[j - 1]! := by
            by_cases e2 : d[j]! = d[j - 1]!
            · exact e2
            · exact absurd (.inr e2) hk
          exact ⟨j - 1, by omega, by rw [← he]; exact e⟩
        · exact ⟨j, by omega, e⟩
theorem compact_rise {l : List Int} (h : l.Pairwise (· ≤ ·)) : (Lib.compact l).Pairwise (· < ·) ∧ ∀ x, x ∈ Lib.compact l ↔ x ∈ l := by
  unfold Lib.compact
  have hs : ∀ i j, i ≤ j → j < l.toArray.size → l.toArray[i]! ≤ l.toArray[j]! := fun i j hij hj => by
    have hj' : j < l.length := by simpa using hj
    rw [getElem!_pos l.toArray i (by simp; omega), getElem!_pos l.toArray j (by simpa using hj)]
    by_cases e : i = j
    · subst e; exact Int.le_refl _
    · have := List.pairwise_iff_getElem.1 h i j (by omega) hj' (by omega)
      simpa using this
  obtain ⟨h1, h2⟩ := compact_up l.toArray hs l.length (by simp)
  refine ⟨h1, fun x => ?_⟩
  rw [h2]
  constructor
  · rintro ⟨j, hj, rfl⟩
    rw [getElem!_pos l.toArray j (by simpa using hj)]
    simp
  · intro hx
    obtain ⟨j, hj, rfl⟩ := List.getElem_of_mem hx
    exact ⟨j, hj, by rw [getElem!_pos l.toArray j (by simpa using hj)]; simp⟩
/-- The boxes that are named: rising, each once. -/
theorem refsR_rise (x : S33) : (refsR x).Pairwise (· < ·) := by
  unfold refsR
  split
  · exact (compact_rise (sortI_le _)).1
  · exact List.Pairwise.nil
theorem refsR_iff {x : S33} (h : goodB x = true) (r : Int) : r ∈ refsR x ↔ r ∈ refsB x := by
  unfold refsR
  rw [if_pos h, (compact_rise (sortI_le _)).2, sortI_mem]
end Go.Proofs.YtmkalnljclhigaaGreat.Ch
