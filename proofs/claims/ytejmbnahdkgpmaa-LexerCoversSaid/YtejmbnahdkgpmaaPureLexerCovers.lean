/-
  The law LexerCovers, over lists and numbers alone.
-/
import Derived.Test.YtejmbnahdkgpmaaXLexerCoversx4
import Derived.Test.YtejmbnahdkgpmaaLX9
namespace Go.Proofs.Ytejmbnahdkgpmaa.Pure
open Go.RowKit Go.Proofs.Ytejmbnahdkgpmaa.XLexerCovers Go.Proofs.YtejmbnahdkgpmaaW.PrintWords Go.Proofs.YtejmbnahdkgpmaaW.PrintLast
set_option linter.unusedVariables false
set_option linter.unusedSimpArgs false
set_option linter.unnecessarySimpa false
theorem drop_bt (s : ByteArray) (i : Nat) (h : i < s.size) : s.data.toList.drop i = (s[i]'h) :: s.data.toList.drop (i + 1) ∧ bt s i = ((s[i]'h).toNat : Int) ∧ (s[i]'h).toNat < 256 :=
  ⟨LX.drop_at s i h, LX.byt_at s i h, (s[i]'h).toNat_lt⟩
theorem wrap_id (x : Int) (h0 : 0 ≤ x) (h1 : x ≤ 1000000) : wrap64 x = x := by
  unfold wrap64
  omega
theorem blank_f (c : Int) : octroiref30_blank.f c = some (decide (c = 32 ∨ c = 9 ∨ c = 13 ∨ c = 10)) := by
  unfold octroiref30_blank.f
  repeat' split
  all_goals (congr 1; apply Bool.eq_iff_iff.2; simp; try omega)

/-- skip, from a place on: outside a remark, and inside one. -/
theorem skip_l (s : ByteArray) (hs : s.size ≤ 65536) : ∀ n i : Nat, i ≤ s.size → s.size - i = n →
    (∃ K, ∀ k, K ≤ k → octroiref30_skip.l0 k s (i : Int) = some ((i + LX.gapL false (s.data.toList.drop i) : Nat) : Int)) ∧
    (∃ K, ∀ k, K ≤ k → octroiref30_skip.l1 k s (i : Int) = some ((i + LX.gapL true (s.data.toList.drop i) : Nat) : Int)) := by
  intro n
  induction n with
  | zero =>
    intro i hi hn
    have e : i = s.size := by omega
    subst e
    have hd := LX.drop_end s s.size (Nat.lt_irrefl _)
    have h0 : ∀ k, 2 ≤ k → octroiref30_skip.l0 k s (s.size : Int) = some ((s.size + LX.gapL false (s.data.toList.drop s.size) : Nat) : Int) := by
      intro k hk
      obtain ⟨k, rfl⟩ : ∃ j, k = j + 2 := ⟨k - 2, by omega⟩
      rw [hd]
      simp [octroiref30_skip.l0, octroiref30_skip.j1, LX.gapL]
    refine ⟨⟨2, h0⟩, ⟨3, ?_⟩⟩
    intro k hk
    obtain ⟨k, rfl⟩ : ∃ j, k = j + 1 := ⟨k - 1, by omega⟩
    have := h0 k (by omega)
    rw [hd] at this ⊢
    simp only [octroiref30_skip.l1]
    rw [if_neg (by omega), this]
    simp [LX.gapL]
  | succ n ih =>
    intro i hi hn
    have hlt : i < s.size := by omega
    obtain ⟨⟨K0, h0⟩, ⟨K1, h1⟩⟩ := ih (i + 1) (by omega) (by omega)
    obtain ⟨hd, hb, hc⟩ := drop_bt s i hlt
    generalize (s[i]'hlt) = c at hd hb hc
    have hw : wrap64 ((i : Int) + 1) = ((i + 1 : Nat) : Int) := by rw [wrap_id _ (by omega) (by omega)]; rfl
    have g0 : ∀ k, K0 + K1 + 4 ≤ k → octroiref30_skip.l0 k s (i : Int) = some ((i + LX.gapL false (s.data.toList.drop i) : Nat) : Int) := by
      intro k hk
      obtain ⟨k, rfl⟩ : ∃ j, k = j + 3 := ⟨k - 3, by omega⟩
      have e0 := h0 (k + 1) (by omega)
      have e1 := h1 k (by omega)
      rw [octroiref30_skip.l0, if_pos (by omega), if_pos (by omega), blank_f, hb, hd, Option.bind_some, LX.gapL]
      have hj : octroiref30_skip.j1 (k + 2) s (i : Int) true = if (c.toNat : Int) = 35 then octroiref30_skip.l1 (k + 1) s (i : Int) else octroiref30_skip.l0 (k + 1) s ((i + 1 : Nat) : Int) := by
        rw [octroiref30_skip.j1, if_pos rfl, if_pos (by omega), if_pos (by omega), hb, hw]
      have hl1 : ¬ c.toNat = 10 → octroiref30_skip.l1 (k + 1) s (i : Int) = octroiref30_skip.l1 k s ((i + 1 : Nat) : Int) := by
        intro h
        rw [octroiref30_skip.l1, if_pos (by omega), if_pos (by omega), hb, if_neg (by omega), hw]
      by_cases c10 : c.toNat = 10
      · rw [if_pos (by simp; omega), if_pos c10, hj, if_neg (by omega), e0]
        congr 1
        omega
      · rw [if_neg c10, if_neg (by simp : ¬ (false = true))]
        by_cases c35 : c.toNat = 35
        · rw [if_neg (by simp; omega), if_pos c35, c35]
          show octroiref30_skip.j1 (k + 2) s (i : Int) true = _
          rw [hj, if_pos (by omega), hl1 c10, e1]
          congr 1
          omega
        · rw [if_neg c35]
          by_cases cb : c.toNat = 32 ∨ c.toNat = 9 ∨ c.toNat = 13
          · rw [if_pos (by simp; omega), if_pos cb, hj, if_neg (by omega), e0]
            congr 1
            omega
          · have hf : ((c.toNat : Int) == 35) = false := by
              simp
              omega
            rw [if_neg (by simp; omega), if_neg cb, hf, octroiref30_skip.j1, if_neg (by simp)]
            rfl
    refine ⟨⟨_, g0⟩, ⟨K0 + K1 + 5, ?_⟩⟩
    intro k hk
    obtain ⟨k, rfl⟩ : ∃ j, k = j + 1 := ⟨k - 1, by omega⟩
    simp only [octroiref30_skip.l1]
    rw [if_pos (by omega), if_pos (by omega), hb]
    by_cases c10 : c.toNat = 10
    · rw [if_pos (by omega), g0 k (by omega), hd]
      simp [LX.gapL, c10]
    · rw [if_neg (by omega), hw, h1 k (by omega), hd]
      simp [LX.gapL, c10]
      omega

theorem one_f (s : ByteArray) (hs : s.size ≤ 65536) (j : Nat) (hj : j < s.size) : octroiref30_one.f s (j : Int) =
    if LX.kind (LX.byt s j) = 0 ∨ (LX.kind (LX.byt s j) = 2 ∧ LX.many s (LX.kind (LX.byt s j)) j > 18) then some (0, 0, (⟨#[]⟩ : ByteArray), 0, 80)
      else some (LX.kind (LX.byt s j), (j : Int), s.extract j (j + LX.many s (LX.kind (LX.byt s j)) j), LX.nOf s (LX.kind (LX.byt s j)) j (LX.many s (LX.kind (LX.byt s j)) j), 0) := by
  unfold octroiref30_one.f
  rw [if_pos ⟨by omega, by omega, hs⟩, Int.toNat_natCast]
  unfold oneS
  split
  · rfl
  · rfl

def mk69 (t : LX.Tok) : S69 := ⟨t.1, t.2.1, t.2.2.1, t.2.2.2⟩
theorem extract_size (s : ByteArray) (j m : Nat) (h : j + m ≤ s.size) : (s.extract j (j + m)).size = m := by
  rw [← LX.len_list, LX.extract_list, Nat.add_sub_cancel_left, List.length_take, List.length_drop, LX.len_list]
  omega

theorem ref_l0 (s : ByteArray) (hs : s.size ≤ 65536) : ∀ (f i : Nat) (acc toks : List LX.Tok) (r2 r3 : Int), i ≤ s.size → acc.length ≤ i → LX.lexF s f i acc = some (toks, r2, r3) →
    ∃ K, ∀ k, K ≤ k → (octroiref30_skip.f k s (i : Int)).bind (fun t => octroiref30_Lex.l0 k s (acc.map mk69) t) = some (toks.map mk69, r2, r3)
  | 0, i, acc, toks, r2, r3, _, _, h => by simp [LX.lexF] at h
  | f + 1, i, acc, toks, r2, r3, hi, ha, h => by
    obtain ⟨K0, h0⟩ := (skip_l s hs _ i hi rfl).1
    rw [LX.lexF] at h
    have hg := LX.gap_le s i hi
    have hij : i ≤ i + LX.gapL false (s.data.toList.drop i) := Nat.le_add_right _ _
    generalize i + LX.gapL false (s.data.toList.drop i) = j at h hg hij h0
    by_cases hend : j = s.size
    · simp only [if_pos hend, Option.some.injEq, Prod.mk.injEq] at h
      obtain ⟨rfl, rfl, rfl⟩ := h
      refine ⟨K0 + 1, fun k hk => ?_⟩
      obtain ⟨k, rfl⟩ : ∃ q, k = q + 1 := ⟨k - 1, by omega⟩
      unfold octroiref30_skip.f
      rw [h0 (k + 1) (by omega), Option.bind_some, octroiref30_Lex.l0, if_neg (by omega)]
    · have hj : j < s.size := by omega
      have h1 := one_f s hs j hj
      simp only [if_neg hend] at h
      have hm1 := LX.many_pos s j hj
      have hm2 := LX.many_le s (LX.kind (LX.byt s j)) j hj
      generalize LX.kind (LX.byt s j) = kc at h h1 hm1 hm2
      generalize LX.many s kc j = m at h h1 hm1 hm2
      by_cases hbad : kc = 0 ∨ (kc = 2 ∧ m > 18)
      · have hq : toks = [] ∧ r2 = (j : Int) ∧ r3 = 80 := by
          rcases hbad with hb | hb
          · simp only [if_pos hb, Option.some.injEq, Prod.mk.injEq] at h
            exact ⟨h.1.symm, h.2.1.symm, h.2.2.symm⟩
          · by_cases hk0 : kc = 0
            · simp only [if_pos hk0, Option.some.injEq, Prod.mk.injEq] at h
              exact ⟨h.1.symm, h.2.1.symm, h.2.2.symm⟩
            · rw [if_neg hk0, if_pos hb] at h
              simp only [Option.some.injEq, Prod.mk.injEq] at h
              exact ⟨h.1.symm, h.2.1.symm, h.2.2.symm⟩
        obtain ⟨rfl, rfl, rfl⟩ := hq
        refine ⟨K0 + 1, fun k hk => ?_⟩
        obtain ⟨k, rfl⟩ : ∃ q, k = q + 1 := ⟨k - 1, by omega⟩
        unfold octroiref30_skip.f
        rw [h0 (k + 1) (by omega), Option.bind_some, octroiref30_Lex.l0, if_pos (by omega), h1, if_pos hbad]
        rfl
      · have hk0 : ¬ kc = 0 := fun h => hbad (Or.inl h)
        have h18 : ¬ (kc = 2 ∧ m > 18) := fun h => hbad (Or.inr h)
        rw [if_neg hk0, if_neg h18] at h
        have hm := hm1 hk0
        obtain ⟨K2, h2⟩ := ref_l0 s hs f (j + m) _ toks r2 r3 hm2 (by rw [List.length_append]; simp; omega) h
        refine ⟨K0 + K2 + 1, fun k hk => ?_⟩
        obtain ⟨k, rfl⟩ : ∃ q, k = q + 1 := ⟨k - 1, by omega⟩
        have e2 := h2 k (by omega)
        have hw : wrap64 ((j : Int) + (m : Int)) = ((j + m : Nat) : Int) := by rw [wrap_id _ (by omega) (by omega), Int.natCast_add]
        unfold octroiref30_skip.f
        rw [h0 (k + 1) (by omega), Option.bind_some, octroiref30_Lex.l0, if_pos (by omega), h1, if_neg hbad, Option.bind_some]
        simp only [if_true]
        rw [if_pos (by rw [List.length_map]; omega), extract_size s j m hm2, hw]
        rw [List.map_append] at e2
        exact e2

theorem ref_lex (s : ByteArray) (toks : List LX.Tok) (r2 r3 : Int) (h : LX.lex s = some (toks, r2, r3)) : ∃ K, ∀ k, K ≤ k → octroiref30_Lex.f k s = some (toks.map mk69, r2, r3) := by
  unfold LX.lex at h
  by_cases hs : s.size > 65536
  · rw [if_pos hs] at h
    simp only [Option.some.injEq, Prod.mk.injEq] at h
    obtain ⟨rfl, rfl, rfl⟩ := h
    refine ⟨0, fun k _ => ?_⟩
    unfold octroiref30_Lex.f
    rw [if_pos (by omega)]
    rfl
  · rw [if_neg hs] at h
    obtain ⟨K, hK⟩ := ref_l0 s (by omega) (s.size + 1) 0 [] toks r2 r3 (Nat.zero_le _) (Nat.le_refl _) h
    refine ⟨K, fun k hk => ?_⟩
    unfold octroiref30_Lex.f
    rw [if_neg (by omega)]
    exact hK k hk


set_option maxRecDepth 100000 in
theorem lives : octroilaw30_lives.f = some true := by
  decide +kernel

theorem rd57 (toks : List LX.Tok) (i : Nat) (h : i < toks.length) : rd_T57 (toks.map mk57) (i : Int) = mk57 (toks.getD i (0, 0, ⟨#[]⟩, 0)) := by
  unfold rd_T57
  rw [List.getD_eq_getElem?_getD, List.getElem?_map, List.getD_eq_getElem?_getD]
  simp [h]

/-- The tokens lie one behind the other from a place on, and between them is nothing. -/
def Cov (s : ByteArray) : Nat → List LX.Tok → Prop
  | i, [] => i + LX.gapL false (s.data.toList.drop i) = s.size
  | i, t :: ts => ∃ m : Nat, i + LX.gapL false (s.data.toList.drop i) < s.size ∧ t.2.1 = ((i + LX.gapL false (s.data.toList.drop i) : Nat) : Int) ∧
      t.2.2.1 = s.extract (i + LX.gapL false (s.data.toList.drop i)) (i + LX.gapL false (s.data.toList.drop i) + m) ∧ 1 ≤ m ∧ i + LX.gapL false (s.data.toList.drop i) + m ≤ s.size ∧
      Cov s (i + LX.gapL false (s.data.toList.drop i) + m) ts

theorem lexF_cov (s : ByteArray) : ∀ (f i : Nat) (acc toks : List LX.Tok) (r2 : Int), i ≤ s.size → LX.lexF s f i acc = some (toks, r2, 0) → ∃ ts, toks = acc ++ ts ∧ Cov s i ts
  | 0, i, acc, toks, r2, _, h => by simp [LX.lexF] at h
  | f + 1, i, acc, toks, r2, hi, h => by
    rw [LX.lexF] at h
    by_cases hend : i + LX.gapL false (s.data.toList.drop i) = s.size
    · simp only [if_pos hend, Option.some.injEq, Prod.mk.injEq] at h
      exact ⟨[], by rw [List.append_nil]; exact h.1.symm, hend⟩
    · simp only [if_neg hend] at h
      have hg := LX.gap_le s i hi
      have hj : i + LX.gapL false (s.data.toList.drop i) < s.size := by omega
      generalize hjj : i + LX.gapL false (s.data.toList.drop i) = j at h hg hj
      by_cases hk : LX.kind (LX.byt s j) = 0
      · simp only [if_pos hk, Option.some.injEq, Prod.mk.injEq] at h
        omega
      · simp only [if_neg hk] at h
        by_cases h18 : LX.kind (LX.byt s j) = 2 ∧ LX.many s (LX.kind (LX.byt s j)) j > 18
        · rw [if_pos h18] at h
          simp only [Option.some.injEq, Prod.mk.injEq] at h
          omega
        · rw [if_neg h18] at h
          have hm1 := LX.many_pos s j hj hk
          have hm2 := LX.many_le s (LX.kind (LX.byt s j)) j hj
          obtain ⟨ts, e, hc⟩ := lexF_cov s f _ _ toks r2 hm2 h
          refine ⟨_ :: ts, by rw [e, List.append_assoc]; rfl, ?_⟩
          rw [Cov, hjj]
          exact ⟨_, hj, rfl, rfl, hm1, hm2, hc⟩

theorem gapL_take : ∀ (b : Bool) (l : List UInt8), LX.gapL b (l.take (LX.gapL b l)) = LX.gapL b l
  | _, [] => rfl
  | b, c :: l => by
    have h1 := gapL_take false l
    have h2 := gapL_take true l
    rw [LX.gapL]
    split
    · rename_i h
      rw [List.take_succ_cons, LX.gapL, if_pos h, h1]
    · rename_i h
      split
      · rename_i h'
        rw [List.take_succ_cons, LX.gapL, if_neg h, if_pos h', h2]
      · rename_i h'
        split
        · rename_i h''
          rw [List.take_succ_cons, LX.gapL, if_neg h, if_neg h', if_pos h'', h2]
        · rename_i h''
          split
          · rename_i h3
            rw [List.take_succ_cons, LX.gapL, if_neg h, if_neg h', if_neg h'', if_pos h3, h1]
          · rfl

/-- A piece that is nothing has no tokens. -/
theorem lex_none (p : ByteArray) (hs : p.size ≤ 6000) (h : LX.gapL false p.data.toList = p.size) : LX.lex p = some ([], 0, 0) := by
  unfold LX.lex
  rw [if_neg (by omega), LX.lexF]
  simp only [List.drop_zero, h, Nat.zero_add, if_true]

theorem lex_gap (s : ByteArray) (hs : s.size ≤ 6000) (i : Nat) (hi : i ≤ s.size) : LX.lex (s.extract i (i + LX.gapL false (s.data.toList.drop i))) = some ([], 0, 0) := by
  have hg := LX.gap_le s i hi
  have hz : (s.extract i (i + LX.gapL false (s.data.toList.drop i))).size = LX.gapL false (s.data.toList.drop i) := extract_size s i _ hg
  refine lex_none _ (by rw [hz]; omega) ?_
  rw [hz, LX.extract_list, Nat.add_sub_cancel_left]
  exact gapL_take false _

theorem toList_ne (x : ByteArray) (h : 1 ≤ x.size) : ¬ x.toList = ([] : List UInt8) := by
  intro e
  rw [ByteArray.toList_eq] at e
  have h3 := congrArg List.length e
  rw [LX.len_list, List.length_nil] at h3
  omega

theorem nums (i j m n : Nat) (h1 : i ≤ j) (h2 : j + m ≤ n) (h3 : 1 ≤ m) (h4 : n ≤ 6000) :
    wrap64 ((n : Int) - (j : Int)) = ((n - j : Nat) : Int) ∧ wrap64 ((j : Int) + (m : Int)) = ((j + m : Nat) : Int) ∧ ¬ ((j : Int) < (i : Int)) ∧ ¬ ((m : Int) > ((n - j : Nat) : Int)) ∧
    (0 : Int) ≤ (j : Int) ∧ (j : Int) ≤ ((j + m : Nat) : Int) ∧ ((j + m : Nat) : Int) ≤ (n : Int) ∧ (0 : Int) ≤ (i : Int) ∧ (i : Int) ≤ (j : Int) ∧ (j : Int) ≤ (n : Int) := by
  refine ⟨?_, ?_, ?_, ?_, ?_, ?_, ?_, ?_, ?_, ?_⟩
  · rw [wrap_id _ (by omega) (by omega)]
    omega
  · rw [wrap_id _ (by omega) (by omega)]
    omega
  all_goals omega
theorem nums1 (n : Nat) (h : n ≤ 6000) : wrap64 ((n : Int) + 1) = ((n + [0].length : Nat) : Int) := by
  rw [wrap_id _ (by omega) (by omega)]
  rfl
set_option maxHeartbeats 400000 in
theorem covers_l0 (s : ByteArray) (hs : s.size ≤ 6000) : ∀ (ts pre : List LX.Tok) (i : Nat), i ≤ s.size → (pre ++ ts).length ≤ 6000 → Cov s i ts →
    ∃ K, ∀ k, K ≤ k → octroilaw30_LexerCovers.l0 k s (i : Int) ((pre ++ ts).map mk57) (((pre ++ ts).map mk57).length : Int) (pre.length : Int) = some true
  | [], pre, i, hi, hl, hc => by
    rw [Cov] at hc
    have hg := lex_gap s hs i hi
    rw [hc] at hg
    obtain ⟨K, hK⟩ := ref_lex _ _ _ _ hg
    refine ⟨K + 1, fun k hk => ?_⟩
    obtain ⟨k, rfl⟩ : ∃ q, k = q + 1 := ⟨k - 1, by omega⟩
    rw [octroilaw30_LexerCovers.l0, if_neg (by rw [List.length_map, List.append_nil]; omega), if_pos (by omega), if_pos (by omega), Int.toNat_natCast, hK k (by omega), Option.bind_some]
    simp only [if_true]
    rw [if_pos (by simp), lives]
    rfl
  | t :: ts, pre, i, hi, hl, hc => by
    rw [Cov] at hc
    obtain ⟨m, hj, e1, e2, hm, hm2, hc⟩ := hc
    have hg := lex_gap s hs i hi
    have hij : i ≤ i + LX.gapL false (s.data.toList.drop i) := Nat.le_add_right _ _
    generalize i + LX.gapL false (s.data.toList.drop i) = j at hj e1 e2 hm2 hc hg hij
    obtain ⟨K, hK⟩ := ref_lex _ _ _ _ hg
    obtain ⟨K2, hK2⟩ := covers_l0 s hs ts (pre ++ [t]) (j + m) hm2 (by rw [List.append_assoc]; exact hl) hc
    rw [List.append_assoc, List.singleton_append] at hK2
    refine ⟨K + K2 + 2, fun k hk => ?_⟩
    obtain ⟨k, rfl⟩ : ∃ q, k = q + 2 := ⟨k - 2, by omega⟩
    have hlen : pre.length < (pre ++ t :: ts).length := by rw [List.length_append, List.length_cons]; omega
    have hrd : rd_T57 ((pre ++ t :: ts).map mk57) (pre.length : Int) = mk57 t := by
      rw [rd57 _ _ hlen]
      congr 1
      rw [List.getD_eq_getElem?_getD, List.getElem?_append_right (Nat.le_refl _)]
      simp
    have hsz : (mk57 t).f2.size = m := by
      show t.2.2.1.size = m
      rw [e2]
      exact extract_size s j m hm2
    have hf1 : (mk57 t).f1 = (j : Int) := e1
    have hf2 : (mk57 t).f2 = s.extract j (j + m) := e2
    obtain ⟨hw1, hw2, q2, q4, q5, q6, q7, q8, q9, q10⟩ := nums i j m s.size hij hm2 hm hs
    have hw3 : wrap64 ((pre.length : Int) + 1) = ((pre ++ [t]).length : Int) := by
      rw [List.length_append]
      exact nums1 pre.length (by rw [List.length_append, List.length_cons] at hl; exact Nat.le_trans (Nat.le_add_right _ _) hl)
    have q0 : (pre.length : Int) < (((pre ++ t :: ts).map mk57).length : Int) := by rw [List.length_map]; exact Int.ofNat_lt.2 hlen
    have q1 : (0 : Int) ≤ (pre.length : Int) := Int.natCast_nonneg _
    have q3 : ¬ (mk57 t).f2.toList = ([] : List UInt8) := toList_ne (mk57 t).f2 (by rw [hsz]; exact hm)
    rw [octroilaw30_LexerCovers.l0, if_pos q0, if_pos q1, if_pos q0, hrd, hf1, if_neg q2, if_neg q3, hsz, hw1, if_neg q4, if_pos q5, hw2, if_pos q6, if_pos q7]
    rw [Int.toNat_natCast, Int.toNat_natCast, hf2, octroilaw30_LexerCovers.j1, if_neg (by simp), if_pos q8, if_pos q9, if_pos q10]
    rw [Int.toNat_natCast, Int.toNat_natCast, hK k (by omega), Option.bind_some]
    simp only [if_true]
    rw [if_neg (by simp), extract_size s j m hm2, hw2, hw3]
    exact hK2 k (by omega)

theorem LexerCovers : octroilaw30_LexerCovers.Pure := by
  intro a0 h0
  by_cases hs : (a0.size : Int) > 6000
  · refine ⟨0, ?_⟩
    unfold octroilaw30_LexerCovers.f
    rw [if_pos hs, lives]
    rfl
  · obtain ⟨⟨toks, r2, r3⟩, hl⟩ := LX.lex_total a0
    have hlf : lexer_Lex.f a0 = some (toks.map mk57, r2, r3) := by
      unfold lexer_Lex.f
      rw [hl]
      rfl
    by_cases h3 : r3 = 0
    · subst h3
      have hlen := LX.lex_len a0 toks r2 0 hl
      have hl2 := hl
      unfold LX.lex at hl2
      rw [if_neg (by omega)] at hl2
      obtain ⟨ts, e, hc⟩ := lexF_cov a0 _ 0 [] toks r2 (Nat.zero_le _) hl2
      rw [List.nil_append] at e
      subst e
      obtain ⟨K, hK⟩ := covers_l0 a0 (by omega) toks [] 0 (Nat.zero_le _) (by rw [List.nil_append]; omega) hc
      refine ⟨K, ?_⟩
      unfold octroilaw30_LexerCovers.f
      rw [if_neg hs, hlf]
      simp only [Option.bind_some, if_true]
      exact hK K (Nat.le_refl _)
    · refine ⟨0, ?_⟩
      unfold octroilaw30_LexerCovers.f
      rw [if_neg hs, hlf]
      simp only [Option.bind_some]
      rw [if_neg h3, lives]
      rfl

end Go.Proofs.Ytejmbnahdkgpmaa.Pure
