/-
  What is shown of tokens has the same tokens.
-/
import Derived.Test.YtejmbnahdkgpmaaLX7
namespace Go.Proofs.Ytejmbnahdkgpmaa.LX
open Go.RowKit Go.Proofs.YtejmbnahdkgpmaaW.PrintWords
set_option linter.unusedVariables false
set_option linter.unusedSimpArgs false
set_option linter.unnecessarySimpa false

def txt (t : Tok) : List UInt8 := t.2.2.1.data.toList
def strip (t : Tok) : Int × List UInt8 × Int := (t.1, txt t, t.2.2.2)
def joinR : Bool → List (List UInt8) → List UInt8
  | _, [] => []
  | b, x :: l => (if b = true then [32] else []) ++ x ++ joinR true l

theorem gap_of_kind (c : UInt8) (l : List UInt8) (h : kind c.toNat ≠ 0) : gapL false (c :: l) = 0 := by
  have hn : c.toNat ≠ 10 ∧ c.toNat ≠ 35 ∧ c.toNat ≠ 32 ∧ c.toNat ≠ 9 ∧ c.toNat ≠ 13 := by
    refine ⟨?_, ?_, ?_, ?_, ?_⟩ <;> (intro e; apply h; rw [e]; decide)
  rw [gapL, if_neg hn.1, if_neg (by simp), if_neg hn.2.1, if_neg (by omega)]

theorem runL_stop (k : Int) (hk : k ≠ 0) : ∀ (x tl : List UInt8), runL k x = x.length → (tl = [] ∨ ∃ l, tl = 32 :: l) → runL k (x ++ tl) = x.length
  | [], tl, _, ht => by
    rcases ht with rfl | ⟨l, rfl⟩
    · rfl
    · have e : kind ((32 : UInt8).toNat : Int) = 0 := by decide
      show runL k (32 :: l) = 0
      rw [runL, e, if_neg (fun h => hk h.symm)]
  | c :: x, tl, h, ht => by
    have hle := runL_le k x
    rw [runL] at h
    by_cases hc : kind c.toNat = k
    · rw [if_pos hc] at h
      simp only [List.length_cons] at h
      rw [List.cons_append, runL, if_pos hc, runL_stop k hk x tl (by omega) ht]
      rfl
    · rw [if_neg hc] at h
      simp at h

theorem joinR_true (l : List (List UInt8)) : joinR true l = [] ∨ ∃ r, joinR true l = 32 :: r := by
  cases l with
  | nil => exact Or.inl rfl
  | cons x l => exact Or.inr ⟨_, rfl⟩

theorem good_head (t : Tok) (h : Good t) : t.1 ≠ 0 ∧ ∃ c x, txt t = c :: x ∧ kind c.toNat = t.1 := by
  unfold Good at h
  unfold txt
  rcases h with ⟨h3, ⟨c, hc, hk⟩, _⟩ | ⟨h12, hne, hr, _, _⟩
  · exact ⟨by omega, c, [], hc, by rw [hk, h3]⟩
  · refine ⟨by omega, ?_⟩
    match hx : t.2.2.1.data.toList, hne, hr with
    | c :: x, _, hr =>
      refine ⟨c, x, rfl, ?_⟩
      rw [runL] at hr
      by_cases hk : kind c.toNat = t.1
      · exact hk
      · rw [if_neg hk] at hr
        simp at hr

theorem relex (S : ByteArray) : ∀ (rest : List Tok) (b : Bool) (f i : Nat) (acc : List Tok), (∀ t ∈ rest, Good t) → S.data.toList.drop i = joinR b (rest.map txt) → i ≤ S.size → S.size < i + f →
    ∃ toks', lexF S f i acc = some (acc ++ toks', 0, 0) ∧ toks'.map strip = rest.map strip
  | _, _, 0, i, _, _, _, hi, hf => by omega
  | [], b, f + 1, i, acc, _, hd, hi, hf => by
    refine ⟨[], ?_, rfl⟩
    rw [lexF]
    have hl : (S.data.toList.drop i).length = 0 := by rw [hd]; rfl
    rw [List.length_drop, len_list] at hl
    rw [hd]
    show (if i + gapL false [] = S.size then _ else _) = _
    rw [if_pos (by simp only [gapL]; omega), List.append_nil]
  | t :: ts, b, f + 1, i, acc, hg, hd, hi, hf => by
    have ht := hg t (List.mem_cons_self ..)
    obtain ⟨h0, c, x, hx, hkc⟩ := good_head t ht
    have hd1 : S.data.toList.drop i = (if b = true then [32] else []) ++ (c :: x) ++ joinR true (ts.map txt) := by
      rw [hd, List.map_cons, joinR, hx]
    have hgap : gapL false (S.data.toList.drop i) = (if b = true then 1 else 0) := by
      rw [hd1]
      cases b with
      | true =>
        simp only [if_true, List.cons_append, List.nil_append]
        have := gap_of_kind c (x ++ joinR true (ts.map txt)) (by rw [hkc]; exact h0)
        rw [gapL, if_neg (by decide), if_neg (by simp), if_neg (by decide), if_pos (by decide), this]
      | false =>
        simp only [Bool.false_eq_true, if_false, List.nil_append, List.cons_append]
        exact gap_of_kind c _ (by rw [hkc]; exact h0)
    have hdj : S.data.toList.drop (i + gapL false (S.data.toList.drop i)) = (c :: x) ++ joinR true (ts.map txt) := by
      rw [← List.drop_drop, hgap, hd1]
      cases b <;> simp
    rw [lexF]
    have hij : i ≤ i + gapL false (S.data.toList.drop i) := Nat.le_add_right _ _
    generalize i + gapL false (S.data.toList.drop i) = j at hdj hij
    have hj : j < S.size := by
      rcases Nat.lt_or_ge j S.size with h | h
      · exact h
      · rw [drop_end S j (by omega)] at hdj
        simp at hdj
    have hcj : (S[j]'hj) = c := by
      have := drop_at S j hj
      rw [hdj, List.cons_append] at this
      injection this with h _
      exact h.symm
    have hk : kind (byt S j) = t.1 := by rw [byt_at S j hj, hcj, hkc]
    have hmany : many S t.1 j = (txt t).length := by
      unfold many
      by_cases h3 : t.1 = 3
      · rw [if_pos h3]
        unfold Good at ht
        rcases ht with ⟨_, ⟨c', hc', _⟩, _⟩ | ⟨h12, _⟩
        · unfold txt
          rw [hc']
          rfl
        · omega
      · rw [if_neg h3, hdj, ← hx]
        unfold Good at ht
        rcases ht with ⟨h3', _⟩ | ⟨h12, _, hr, _, _⟩
        · exact absurd h3' h3
        · exact runL_stop t.1 h0 (txt t) _ hr (joinR_true _)
    have hex : (S.extract j (j + (txt t).length)).data.toList = txt t := by
      rw [extract_list, Nat.add_sub_cancel_left, hdj, ← hx]
      exact List.take_left
    have hn : nOf S t.1 j (txt t).length = t.2.2.2 := by
      unfold nOf
      rw [hex]
      unfold Good at ht
      rcases ht with ⟨h3', _, hn⟩ | ⟨h12, _, _, _, hn⟩
      · rw [if_neg (by omega), hn]
      · rw [hn]
        rfl
    have h18 : ¬ (t.1 = 2 ∧ (txt t).length > 18) := by
      rintro ⟨h2, hgt⟩
      unfold Good at ht
      rcases ht with ⟨h3', _⟩ | ⟨_, _, _, hl, _⟩
      · omega
      · have := hl h2
        unfold txt at hgt
        omega
    have hne : ¬ j = S.size := by omega
    simp only [if_neg hne, hk, if_neg h0, hmany]
    rw [if_neg h18, hn]
    have hmle := many_le S t.1 j hj
    rw [hmany] at hmle
    have hlen : 1 ≤ (txt t).length := by rw [hx]; simp
    obtain ⟨toks', h1, h2⟩ := relex S ts true f (j + (txt t).length) (acc ++ [(t.1, (j : Int), S.extract j (j + (txt t).length), t.2.2.2)]) (fun u hu => hg u (List.mem_cons_of_mem _ hu))
      (by rw [← List.drop_drop, hdj, ← hx]; exact List.drop_left) hmle (by omega)
    refine ⟨(t.1, (j : Int), S.extract j (j + (txt t).length), t.2.2.2) :: toks', ?_, ?_⟩
    · rw [h1, List.append_assoc]
      rfl
    · rw [List.map_cons, List.map_cons, h2]
      congr 1
      show (t.1, (S.extract j (j + (txt t).length)).data.toList, t.2.2.2) = (t.1, txt t, t.2.2.2)
      rw [hex]

/-- What is shown, from the front. -/
theorem joinF_snoc (tx : Nat → ByteArray) (l : List Tok) (ht : ∀ i, i < l.length → (tx i).data.toList = txt (l.getD i (0, 0, ⟨#[]⟩, 0))) :
    ∀ n, n ≤ l.length → joinF tx n ++ joinR (decide (0 < n)) ((l.drop n).map txt) = joinR false (l.map txt)
  | 0, _ => by simp [joinF]
  | n + 1, hn => by
    have ih := joinF_snoc tx l ht n (by omega)
    have hlt : n < l.length := by omega
    have e : l.drop n = l[n] :: l.drop (n + 1) := List.drop_eq_getElem_cons hlt
    have h1 := ht n hlt
    rw [List.getD_eq_getElem?_getD, List.getElem?_eq_getElem hlt] at h1
    rw [← ih, e, List.map_cons, joinR, joinF, h1]
    simp only [Option.getD_some, List.append_assoc, decide_eq_true_eq, Nat.succ_pos, decide_true]

theorem joinF_all (tx : Nat → ByteArray) (l : List Tok) (ht : ∀ i, i < l.length → (tx i).data.toList = txt (l.getD i (0, 0, ⟨#[]⟩, 0))) : joinF tx l.length = joinR false (l.map txt) := by
  have := joinF_snoc tx l ht l.length (Nat.le_refl _)
  rw [List.drop_length] at this
  simpa [joinR] using this

def sumL : List Tok → Nat
  | [] => 0
  | t :: l => (txt t).length + 1 + sumL l
theorem sumL_append : ∀ a b : List Tok, sumL (a ++ b) = sumL a + sumL b
  | [], b => by simp [sumL]
  | t :: a, b => by
    rw [List.cons_append, sumL, sumL, sumL_append a b]
    omega
theorem joinR_len : ∀ (b : Bool) (l : List Tok), (joinR b (l.map txt)).length ≤ sumL l
  | _, [] => Nat.le_refl _
  | b, t :: l => by
    have := joinR_len true l
    rw [List.map_cons, joinR, List.length_append, List.length_append, sumL]
    cases b <;> simp <;> omega

theorem lexF_len (s : ByteArray) : ∀ (f i : Nat) (acc toks : List Tok) (r2 r3 : Int), i ≤ s.size → sumL acc ≤ 2 * i → acc.length ≤ i → lexF s f i acc = some (toks, r2, r3) → sumL toks ≤ 2 * s.size ∧ toks.length ≤ s.size
  | 0, i, acc, toks, r2, r3, _, _, _, h => by simp [lexF] at h
  | f + 1, i, acc, toks, r2, r3, hi, ha, hb, h => by
    rw [lexF] at h
    have hg := gap_le s i hi
    have hij : i ≤ i + gapL false (s.data.toList.drop i) := Nat.le_add_right _ _
    generalize i + gapL false (s.data.toList.drop i) = j at h hg hij
    by_cases hend : j = s.size
    · simp only [if_pos hend, Option.some.injEq, Prod.mk.injEq] at h
      rw [← h.1]
      omega
    · simp only [if_neg hend] at h
      have hj : j < s.size := by omega
      by_cases hk : kind (byt s j) = 0
      · simp only [if_pos hk, Option.some.injEq, Prod.mk.injEq] at h
        rw [← h.1]
        simp [sumL]
      · simp only [if_neg hk] at h
        by_cases h18 : kind (byt s j) = 2 ∧ many s (kind (byt s j)) j > 18
        · rw [if_pos h18] at h
          simp only [Option.some.injEq, Prod.mk.injEq] at h
          rw [← h.1]
          simp [sumL]
        · rw [if_neg h18] at h
          have hm1 := many_pos s j hj hk
          have hm2 := many_le s (kind (byt s j)) j hj
          refine lexF_len s f _ _ toks r2 r3 hm2 ?_ ?_ h
          · rw [sumL_append]
            have e : (txt (kind (byt s j), (j : Int), s.extract j (j + many s (kind (byt s j)) j), nOf s (kind (byt s j)) j (many s (kind (byt s j)) j))).length = many s (kind (byt s j)) j := by
              unfold txt
              simp only [extract_list, Nat.add_sub_cancel_left, List.length_take, List.length_drop, len_list]
              omega
            simp only [sumL, e]
            omega
          · simp
            omega
theorem lex_len (s : ByteArray) (toks : List Tok) (r2 r3 : Int) (h : lex s = some (toks, r2, r3)) : sumL toks ≤ 2 * s.size ∧ toks.length ≤ s.size := by
  unfold lex at h
  split at h
  · simp only [Option.some.injEq, Prod.mk.injEq] at h
    rw [← h.1]
    simp [sumL]
  · exact lexF_len s _ _ _ toks r2 r3 (Nat.zero_le _) (by simp [sumL]) (by simp) h
theorem lexF_err (s : ByteArray) : ∀ (f i : Nat) (acc toks : List Tok) (r2 r3 : Int), lexF s f i acc = some (toks, r2, r3) → r3 = 0 ∨ toks = []
  | 0, i, acc, toks, r2, r3, h => by simp [lexF] at h
  | f + 1, i, acc, toks, r2, r3, h => by
    rw [lexF] at h
    split at h
    · simp only [Option.some.injEq, Prod.mk.injEq] at h
      exact Or.inl h.2.2.symm
    · split at h
      · simp only [Option.some.injEq, Prod.mk.injEq] at h
        exact Or.inr h.1.symm
      · split at h
        · simp only [Option.some.injEq, Prod.mk.injEq] at h
          exact Or.inr h.1.symm
        · exact lexF_err s f _ _ toks r2 r3 h
theorem lex_err (s : ByteArray) (toks : List Tok) (r2 r3 : Int) (h : lex s = some (toks, r2, r3)) : r3 = 0 ∨ toks = [] := by
  unfold lex at h
  split at h
  · simp only [Option.some.injEq, Prod.mk.injEq] at h
    exact Or.inr h.1.symm
  · exact lexF_err s _ _ _ toks r2 r3 h
theorem lexF_ok0 (s : ByteArray) : ∀ (f i : Nat) (acc toks : List Tok) (r2 : Int), lexF s f i acc = some (toks, r2, 0) → r2 = 0
  | 0, i, acc, toks, r2, h => by simp [lexF] at h
  | f + 1, i, acc, toks, r2, h => by
    rw [lexF] at h
    split at h
    · simp only [Option.some.injEq, Prod.mk.injEq] at h
      exact h.2.1.symm
    · split at h
      · simp at h
      · split at h
        · simp at h
        · exact lexF_ok0 s f _ _ toks r2 h

/-- What is shown has the same tokens. -/
theorem again (s S : ByteArray) (toks : List Tok) (r2 : Int) (hs : s.size ≤ 6000) (h : lex s = some (toks, r2, 0)) (hS : S.data.toList = joinR false (toks.map txt)) :
    ∃ toks', lex S = some (toks', 0, 0) ∧ toks'.map strip = toks.map strip := by
  have hl := (lex_len s toks r2 0 h).1
  have hj := joinR_len false toks
  rw [← hS, len_list] at hj
  obtain ⟨toks', h1, h2⟩ := relex S toks false (S.size + 1) 0 [] (lex_good s toks r2 0 h) (by rw [List.drop_zero, hS]) (Nat.zero_le _) (by omega)
  refine ⟨toks', ?_, h2⟩
  unfold lex
  rw [if_neg (by omega), h1]
  rfl

end Go.Proofs.Ytejmbnahdkgpmaa.LX
