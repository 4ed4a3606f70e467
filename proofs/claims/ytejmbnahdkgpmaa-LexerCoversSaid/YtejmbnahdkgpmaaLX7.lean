/-
  What lexer.Lex computes: it always ends; each token is one; what is shown of tokens has the same tokens.
-/
import Derived.Test.YtejmbnahdkgpmaaLX5
namespace Go.Proofs.Ytejmbnahdkgpmaa.LX
open Go.RowKit Go.Proofs.YtejmbnahdkgpmaaW.PrintWords
set_option linter.unusedVariables false
set_option linter.unusedSimpArgs false
set_option linter.unnecessarySimpa false

/-- A token's text is of its kind, whole; its number is told. -/
def Good (t : Tok) : Prop :=
  (t.1 = 3 ∧ (∃ c, t.2.2.1.data.toList = [c] ∧ kind c.toNat = 3) ∧ t.2.2.2 = 0) ∨
  ((t.1 = 1 ∨ t.1 = 2) ∧ t.2.2.1.data.toList ≠ [] ∧ runL t.1 t.2.2.1.data.toList = t.2.2.1.data.toList.length ∧ (t.1 = 2 → t.2.2.1.data.toList.length ≤ 18) ∧ t.2.2.2 = if t.1 = 2 then numL 0 t.2.2.1.data.toList else 0)

theorem runL_take (k : Int) : ∀ l : List UInt8, runL k (l.take (runL k l)) = runL k l
  | [] => rfl
  | c :: l => by
    by_cases h : kind c.toNat = k
    · have e : runL k (c :: l) = runL k l + 1 := by rw [runL, if_pos h]
      rw [e, List.take_succ_cons, runL, if_pos h, runL_take k l]
    · have e : runL k (c :: l) = 0 := by rw [runL, if_neg h]
      rw [e]
      rfl

theorem good_tok (s : ByteArray) (j : Nat) (hj : j < s.size) (k : Int) (hk : kind (byt s j) = k) (h0 : k ≠ 0) (h18 : ¬ (k = 2 ∧ many s k j > 18)) :
    Good (k, (j : Int), s.extract j (j + many s k j), nOf s k j (many s k j)) := by
  have hx : (s.extract j (j + many s k j)).data.toList = (s.data.toList.drop j).take (many s k j) := by
    rw [extract_list, Nat.add_sub_cancel_left]
  have hd := drop_at s j hj
  have hb := byt_at s j hj
  unfold Good
  simp only [hx]
  by_cases h3 : k = 3
  · left
    have hm : many s k j = 1 := by unfold many; rw [if_pos h3]
    refine ⟨h3, ⟨s[j]'hj, ?_, ?_⟩, ?_⟩
    · rw [hm, hd]
      rfl
    · rw [← hb, hk, h3]
    · unfold nOf
      rw [if_neg (by omega)]
  · right
    have hm : many s k j = runL k (s.data.toList.drop j) := by unfold many; rw [if_neg h3]
    have h12 : k = 1 ∨ k = 2 := by
      have := kind_range (byt s j)
      omega
    have hlen : ((s.data.toList.drop j).take (many s k j)).length = many s k j := by
      rw [List.length_take, hm]
      exact Nat.min_eq_left (runL_le _ _)
    have hp := many_pos s j hj (by rw [hk]; exact h0)
    rw [hk] at hp
    refine ⟨h12, ?_, ?_, ?_, ?_⟩
    · intro e
      rw [e] at hlen
      simp at hlen
      omega
    · rw [hlen, hm, runL_take]
    · intro e
      rw [hlen]
      have : ¬ many s k j > 18 := fun h => h18 ⟨e, h⟩
      omega
    · unfold nOf
      rw [hx]

theorem lexF_good (s : ByteArray) : ∀ (f i : Nat) (acc toks : List Tok) (r2 r3 : Int), i ≤ s.size → (∀ t ∈ acc, Good t) → lexF s f i acc = some (toks, r2, r3) → ∀ t ∈ toks, Good t
  | 0, i, acc, toks, r2, r3, _, _, h => by simp [lexF] at h
  | f + 1, i, acc, toks, r2, r3, hi, ha, h => by
    rw [lexF] at h
    have hg := gap_le s i hi
    generalize hgj : i + gapL false (s.data.toList.drop i) = j at h hg
    by_cases hend : j = s.size
    · simp only [if_pos hend, Option.some.injEq, Prod.mk.injEq] at h
      rw [← h.1]
      exact ha
    · simp only [if_neg hend] at h
      have hj : j < s.size := by omega
      by_cases hk : kind (byt s j) = 0
      · simp only [if_pos hk, Option.some.injEq, Prod.mk.injEq] at h
        rw [← h.1]
        simp
      · simp only [if_neg hk] at h
        by_cases h18 : kind (byt s j) = 2 ∧ many s (kind (byt s j)) j > 18
        · rw [if_pos h18] at h
          simp only [Option.some.injEq, Prod.mk.injEq] at h
          rw [← h.1]
          simp
        · rw [if_neg h18] at h
          refine lexF_good s f _ _ toks r2 r3 (many_le s _ j hj) ?_ h
          intro t ht
          rcases List.mem_append.1 ht with ht | ht
          · exact ha t ht
          · simp only [List.mem_singleton] at ht
            rw [ht]
            exact good_tok s j hj _ rfl hk h18

theorem lexF_total (s : ByteArray) : ∀ (f i : Nat) (acc : List Tok), i ≤ s.size → s.size < i + f → ∃ r, lexF s f i acc = some r
  | 0, i, acc, hi, hf => by omega
  | f + 1, i, acc, hi, hf => by
    rw [lexF]
    have hg := gap_le s i hi
    have hle : i ≤ i + gapL false (s.data.toList.drop i) := Nat.le_add_right _ _
    generalize i + gapL false (s.data.toList.drop i) = j at hg hle
    by_cases hend : j = s.size
    · simp only [if_pos hend]
      exact ⟨_, rfl⟩
    · have hj : j < s.size := by omega
      simp only [if_neg hend]
      by_cases hk : kind (byt s j) = 0
      · simp only [if_pos hk]
        exact ⟨_, rfl⟩
      · simp only [if_neg hk]
        split
        · exact ⟨_, rfl⟩
        · have := many_pos s j hj hk
          exact lexF_total s f _ _ (many_le s _ j hj) (by omega)

theorem lex_total (s : ByteArray) : ∃ r, lex s = some r := by
  unfold lex
  split
  · exact ⟨_, rfl⟩
  · exact lexF_total s _ _ _ (Nat.zero_le _) (by omega)
theorem lex_good (s : ByteArray) (toks : List Tok) (r2 r3 : Int) (h : lex s = some (toks, r2, r3)) : ∀ t ∈ toks, Good t := by
  unfold lex at h
  split at h
  · simp only [Option.some.injEq, Prod.mk.injEq] at h
    rw [← h.1]
    simp
  · exact lexF_good s _ _ _ toks r2 r3 (Nat.zero_le _) (by simp) h

end Go.Proofs.Ytejmbnahdkgpmaa.LX
