/-
  The law LexerReads, over lists and numbers alone.
-/
import Derived.Test.YtejmbnahdkgpmaaXLexerReadsx4
import Derived.Test.YtejmbnahdkgpmaaLX9
namespace Go.Proofs.Ytejmbnahdkgpmaa.Pure
open Go.RowKit Go.Proofs.Ytejmbnahdkgpmaa.XLexerReads Go.Proofs.YtejmbnahdkgpmaaW.PrintWords Go.Proofs.YtejmbnahdkgpmaaW.PrintLast
set_option linter.unusedVariables false
set_option linter.unusedSimpArgs false
set_option linter.unnecessarySimpa false
theorem drop_bt (s : ByteArray) (i : Nat) (h : i < s.size) : s.data.toList.drop i = (s[i]'h) :: s.data.toList.drop (i + 1) ∧ bt s i = ((s[i]'h).toNat : Int) ∧ (s[i]'h).toNat < 256 :=
  ⟨LX.drop_at s i h, LX.byt_at s i h, (s[i]'h).toNat_lt⟩
theorem wrap_id (x : Int) (h0 : 0 ≤ x) (h1 : x ≤ 1000000) : wrap64 x = x := by
  unfold wrap64
  omega
theorem blank_f (c : Int) : octroiref30_blank.f c = some (decide (c = 32 ∨ c = 9 ∨ c = 13 ∨ c = 10)) := by
  unfold octroiref30_blank.f
  repeat' split
  all_goals (congr 1; apply Bool.eq_iff_iff.2; simp; try omega)

/-- skip, from a place on: outside a remark, and inside one. -/
theorem skip_l (s : ByteArray) (hs : s.size ≤ 65536) : ∀ n i : Nat, i ≤ s.size → s.size - i = n →
    (∃ K, ∀ k, K ≤ k → octroiref30_skip.l0 k s (i : Int) = some ((i + LX.gapL false (s.data.toList.drop i) : Nat) : Int)) ∧
    (∃ K, ∀ k, K ≤ k → octroiref30_skip.l1 k s (i : Int) = some ((i + LX.gapL true (s.data.toList.drop i) : Nat) : Int)) := by
  intro n
  induction n with
  | zero =>
    intro i hi hn
    have e : i = s.size := by omega
    subst e
    have hd := LX.drop_end s s.size (Nat.lt_irrefl _)
    have h0 : ∀ k, 2 ≤ k → octroiref30_skip.l0 k s (s.size : Int) = some ((s.size + LX.gapL false (s.data.toList.drop s.size) : Nat) : Int) := by
      intro k hk
      obtain ⟨k, rfl⟩ : ∃ j, k = j + 2 := ⟨k - 2, by omega⟩
      rw [hd]
      simp [octroiref30_skip.l0, octroiref30_skip.j1, LX.gapL]
    refine ⟨⟨2, h0⟩, ⟨3, ?_⟩⟩
    intro k hk
    obtain ⟨k, rfl⟩ : ∃ j, k = j + 1 := ⟨k - 1, by omega⟩
    have := h0 k (by omega)
    rw [hd] at this ⊢
    simp only [octroiref30_skip.l1]
    rw [if_neg (by omega), this]
    simp [LX.gapL]
  | succ n ih =>
    intro i hi hn
    have hlt : i < s.size := by omega
    obtain ⟨⟨K0, h0⟩, ⟨K1, h1⟩⟩ := ih (i + 1) (by omega) (by omega)
    obtain ⟨hd, hb, hc⟩ := drop_bt s i hlt
    generalize (s[i]'hlt) = c at hd hb hc
    have hw : wrap64 ((i : Int) + 1) = ((i + 1 : Nat) : Int) := by rw [wrap_id _ (by omega) (by omega)]; rfl
    have g0 : ∀ k, K0 + K1 + 4 ≤ k → octroiref30_skip.l0 k s (i : Int) = some ((i + LX.gapL false (s.data.toList.drop i) : Nat) : Int) := by
      intro k hk
      obtain ⟨k, rfl⟩ : ∃ j, k = j + 3 := ⟨k - 3, by omega⟩
      have e0 := h0 (k + 1) (by omega)
      have e1 := h1 k (by omega)
      rw [octroiref30_skip.l0, if_pos (by omega), if_pos (by omega), blank_f, hb, hd, Option.bind_some, LX.gapL]
      have hj : octroiref30_skip.j1 (k + 2) s (i : Int) true = if (c.toNat : Int) = 35 then octroiref30_skip.l1 (k + 1) s (i : Int) else octroiref30_skip.l0 (k + 1) s ((i + 1 : Nat) : Int) := by
        rw [octroiref30_skip.j1, if_pos rfl, if_pos (by omega), if_pos (by omega), hb, hw]
      have hl1 : ¬ c.toNat = 10 → octroiref30_skip.l1 (k + 1) s (i : Int) = octroiref30_skip.l1 k s ((i + 1 : Nat) : Int) := by
        intro h
        rw [octroiref30_skip.l1, if_pos (by omega), if_pos (by omega), hb, if_neg (by omega), hw]
      by_cases c10 : c.toNat = 10
      · rw [if_pos (by simp; omega), if_pos c10, hj, if_neg (by omega), e0]
        congr 1
        omega
      · rw [if_neg c10, if_neg (by simp : ¬ (false = true))]
        by_cases c35 : c.toNat = 35
        · rw [if_neg (by simp; omega), if_pos c35, c35]
          show octroiref30_skip.j1 (k + 2) s (i : Int) true = _
          rw [hj, if_pos (by omega), hl1 c10, e1]
          congr 1
          omega
        · rw [if_neg c35]
          by_cases cb : c.toNat = 32 ∨ c.toNat = 9 ∨ c.toNat = 13
          · rw [if_pos (by simp; omega), if_pos cb, hj, if_neg (by omega), e0]
            congr 1
            omega
          · have hf : ((c.toNat : Int) == 35) = false := by
              simp
              omega
            rw [if_neg (by simp; omega), if_neg cb, hf, octroiref30_skip.j1, if_neg (by simp)]
            rfl
    refine ⟨⟨_, g0⟩, ⟨K0 + K1 + 5, ?_⟩⟩
    intro k hk
    obtain ⟨k, rfl⟩ : ∃ j, k = j + 1 := ⟨k - 1, by omega⟩
    simp only [octroiref30_skip.l1]
    rw [if_pos (by omega), if_pos (by omega), hb]
    by_cases c10 : c.toNat = 10
    · rw [if_pos (by omega), g0 k (by omega), hd]
      simp [LX.gapL, c10]
    · rw [if_neg (by omega), hw, h1 k (by omega), hd]
      simp [LX.gapL, c10]
      omega

theorem one_f (s : ByteArray) (hs : s.size ≤ 65536) (j : Nat) (hj : j < s.size) : octroiref30_one.f s (j : Int) =
    if LX.kind (LX.byt s j) = 0 ∨ (LX.kind (LX.byt s j) = 2 ∧ LX.many s (LX.kind (LX.byt s j)) j > 18) then some (0, 0, (⟨#[]⟩ : ByteArray), 0, 80)
      else some (LX.kind (LX.byt s j), (j : Int), s.extract j (j + LX.many s (LX.kind (LX.byt s j)) j), LX.nOf s (LX.kind (LX.byt s j)) j (LX.many s (LX.kind (LX.byt s j)) j), 0) := by
  unfold octroiref30_one.f
  rw [if_pos ⟨by omega, by omega, hs⟩, Int.toNat_natCast]
  unfold oneS
  split
  · rfl
  · rfl

def mk69 (t : LX.Tok) : S69 := ⟨t.1, t.2.1, t.2.2.1, t.2.2.2⟩
theorem extract_size (s : ByteArray) (j m : Nat) (h : j + m ≤ s.size) : (s.extract j (j + m)).size = m := by
  rw [← LX.len_list, LX.extract_list, Nat.add_sub_cancel_left, List.length_take, List.length_drop, LX.len_list]
  omega

theorem ref_l0 (s : ByteArray) (hs : s.size ≤ 65536) : ∀ (f i : Nat) (acc toks : List LX.Tok) (r2 r3 : Int), i ≤ s.size → acc.length ≤ i → LX.lexF s f i acc = some (toks, r2, r3) →
    ∃ K, ∀ k, K ≤ k → (octroiref30_skip.f k s (i : Int)).bind (fun t => octroiref30_Lex.l0 k s (acc.map mk69) t) = some (toks.map mk69, r2, r3)
  | 0, i, acc, toks, r2, r3, _, _, h => by simp [LX.lexF] at h
  | f + 1, i, acc, toks, r2, r3, hi, ha, h => by
    obtain ⟨K0, h0⟩ := (skip_l s hs _ i hi rfl).1
    rw [LX.lexF] at h
    have hg := LX.gap_le s i hi
    have hij : i ≤ i + LX.gapL false (s.data.toList.drop i) := Nat.le_add_right _ _
    generalize i + LX.gapL false (s.data.toList.drop i) = j at h hg hij h0
    by_cases hend : j = s.size
    · simp only [if_pos hend, Option.some.injEq, Prod.mk.injEq] at h
      obtain ⟨rfl, rfl, rfl⟩ := h
      refine ⟨K0 + 1, fun k hk => ?_⟩
      obtain ⟨k, rfl⟩ : ∃ q, k = q + 1 := ⟨k - 1, by omega⟩
      unfold octroiref30_skip.f
      rw [h0 (k + 1) (by omega), Option.bind_some, octroiref30_Lex.l0, if_neg (by omega)]
    · have hj : j < s.size := by omega
      have h1 := one_f s hs j hj
      simp only [if_neg hend] at h
      have hm1 := LX.many_pos s j hj
      have hm2 := LX.many_le s (LX.kind (LX.byt s j)) j hj
      generalize LX.kind (LX.byt s j) = kc at h h1 hm1 hm2
      generalize LX.many s kc j = m at h h1 hm1 hm2
      by_cases hbad : kc = 0 ∨ (kc = 2 ∧ m > 18)
      · have hq : toks = [] ∧ r2 = (j : Int) ∧ r3 = 80 := by
          rcases hbad with hb | hb
          · simp only [if_pos hb, Option.some.injEq, Prod.mk.injEq] at h
            exact ⟨h.1.symm, h.2.1.symm, h.2.2.symm⟩
          · by_cases hk0 : kc = 0
            · simp only [if_pos hk0, Option.some.injEq, Prod.mk.injEq] at h
              exact ⟨h.1.symm, h.2.1.symm, h.2.2.symm⟩
            · rw [if_neg hk0, if_pos hb] at h
              simp only [Option.some.injEq, Prod.mk.injEq] at h
              exact ⟨h.1.symm, h.2.1.symm, h.2.2.symm⟩
        obtain ⟨rfl, rfl, rfl⟩ := hq
        refine ⟨K0 + 1, fun k hk => ?_⟩
        obtain ⟨k, rfl⟩ : ∃ q, k = q + 1 := ⟨k - 1, by omega⟩
        unfold octroiref30_skip.f
        rw [h0 (k + 1) (by omega), Option.bind_some, octroiref30_Lex.l0, if_pos (by omega), h1, if_pos hbad]
        rfl
      · have hk0 : ¬ kc = 0 := fun h => hbad (Or.inl h)
        have h18 : ¬ (kc = 2 ∧ m > 18) := fun h => hbad (Or.inr h)
        rw [if_neg hk0, if_neg h18] at h
        have hm := hm1 hk0
        obtain ⟨K2, h2⟩ := ref_l0 s hs f (j + m) _ toks r2 r3 hm2 (by rw [List.length_append]; simp; omega) h
        refine ⟨K0 + K2 + 1, fun k hk => ?_⟩
        obtain ⟨k, rfl⟩ : ∃ q, k = q + 1 := ⟨k - 1, by omega⟩
        have e2 := h2 k (by omega)
        have hw : wrap64 ((j : Int) + (m : Int)) = ((j + m : Nat) : Int) := by rw [wrap_id _ (by omega) (by omega), Int.natCast_add]
        unfold octroiref30_skip.f
        rw [h0 (k + 1) (by omega), Option.bind_some, octroiref30_Lex.l0, if_pos (by omega), h1, if_neg hbad, Option.bind_some]
        simp only [if_true]
        rw [if_pos (by rw [List.length_map]; omega), extract_size s j m hm2, hw]
        rw [List.map_append] at e2
        exact e2

theorem ref_lex (s : ByteArray) (toks : List LX.Tok) (r2 r3 : Int) (h : LX.lex s = some (toks, r2, r3)) : ∃ K, ∀ k, K ≤ k → octroiref30_Lex.f k s = some (toks.map mk69, r2, r3) := by
  unfold LX.lex at h
  by_cases hs : s.size > 65536
  · rw [if_pos hs] at h
    simp only [Option.some.injEq, Prod.mk.injEq] at h
    obtain ⟨rfl, rfl, rfl⟩ := h
    refine ⟨0, fun k _ => ?_⟩
    unfold octroiref30_Lex.f
    rw [if_pos (by omega)]
    rfl
  · rw [if_neg hs] at h
    obtain ⟨K, hK⟩ := ref_l0 s (by omega) (s.size + 1) 0 [] toks r2 r3 (Nat.zero_le _) (Nat.le_refl _) h
    refine ⟨K, fun k hk => ?_⟩
    unfold octroiref30_Lex.f
    rw [if_neg (by omega)]
    exact hK k hk


set_option maxRecDepth 100000 in
theorem lives : octroilaw30_lives.f = some true := by
  decide +kernel

theorem bytes_ext {x y : ByteArray} (h : x.data.toList = y.data.toList) : x = y := by
  cases x
  cases y
  congr 1
  exact Array.toList_inj.1 h
theorem rd57 (toks : List LX.Tok) (i : Nat) (h : i < toks.length) : rd_T57 (toks.map mk57) (i : Int) = mk57 (toks.getD i (0, 0, ⟨#[]⟩, 0)) := by
  unfold rd_T57
  rw [List.getD_eq_getElem?_getD, List.getElem?_map, List.getD_eq_getElem?_getD]
  simp [h]
theorem rd69 (toks : List LX.Tok) (i : Nat) (h : i < toks.length) : rd_T69 (toks.map mk69) (i : Int) = mk69 (toks.getD i (0, 0, ⟨#[]⟩, 0)) := by
  unfold rd_T69
  rw [List.getD_eq_getElem?_getD, List.getElem?_map, List.getD_eq_getElem?_getD]
  simp [h]

theorem show_f (toks : List LX.Tok) (h : LX.sumL toks ≤ 262144) (hn : toks.length ≤ 131072) :
    ∃ S : ByteArray, lexer_Show.f (toks.map mk57) = some S ∧ S.data.toList = LX.joinR false (toks.map LX.txt) := by
  have e := LX.joinF_all (fun i => (rd_T57 (toks.map mk57) (i : Int)).f2) toks (fun i hi => by
    show (rd_T57 (toks.map mk57) (i : Int)).f2.data.toList = _
    rw [rd57 toks i hi]
    rfl)
  refine ⟨⟨(LX.joinF (fun i => (rd_T57 (toks.map mk57) (i : Int)).f2) (toks.map mk57).length).toArray⟩, ?_, ?_⟩
  · unfold lexer_Show.f
    rw [if_pos]
    refine ⟨by rw [List.length_map]; omega, ?_⟩
    rw [List.length_map, e]
    have := LX.joinR_len false toks
    omega
  · rw [List.length_map, e]

theorem append_list (a b : ByteArray) : (a ++ b).data.toList = a.data.toList ++ b.data.toList := by
  rw [ByteArray.data_append, Array.toList_append]

theorem refshow_l0 (toks : List LX.Tok) (h : LX.sumL toks ≤ 262144) (hn : toks.length ≤ 131072) (tx : Nat → ByteArray) (ht : ∀ i, i < toks.length → tx i = (rd_T69 (toks.map mk69) (i : Int)).f2) (hj : (LX.joinF tx toks.length).length ≤ 262144) :
    ∀ (m i : Nat) (acc : ByteArray), i + m = toks.length → acc.data.toList = LX.joinF tx i → ∃ S, octroiref30_Show.l0 (m + 1) (toks.map mk69) acc (i : Int) = some S ∧ S.data.toList = LX.joinF tx toks.length
  | 0, i, acc, hi, ha => by
    obtain rfl : i = toks.length := by omega
    refine ⟨acc, ?_, ha⟩
    rw [octroiref30_Show.l0, if_neg (by rw [List.length_map]; omega)]
  | m + 1, i, acc, hi, ha => by
    have hlt : i < toks.length := by omega
    have hm := LX.joinF_mono tx (i + 1) toks.length (by omega)
    have hw : wrap64 ((i : Int) + 1) = ((i + 1 : Nat) : Int) := by rw [wrap_id _ (by omega) (by omega)]; rfl
    have hlen : acc.size = (LX.joinF tx i).length := by rw [← ha, LX.len_list]
    have hti := ht i hlt
    have h1 : (LX.joinF tx (i + 1)).length = (LX.joinF tx i).length + (if 0 < i then 1 else 0) + (tx i).size := by
      rw [LX.joinF, List.length_append, List.length_append, LX.len_list]
      split <;> rfl
    rw [octroiref30_Show.l0, if_pos (by rw [List.length_map]; omega)]
    by_cases hz : 0 < i
    · rw [if_pos hz] at h1
      have hsz : (acc ++ (⟨#[32]⟩ : ByteArray)).size = acc.size + 1 := by
        rw [← LX.len_list, append_list, List.length_append, LX.len_list]
        rfl
      rw [if_pos (by omega), if_pos (by omega), if_pos (by omega), ← hti, if_pos (by rw [hsz]; omega), hw]
      refine refshow_l0 toks h hn tx ht hj m (i + 1) _ (by omega) ?_
      rw [append_list, append_list, ha, LX.joinF, if_pos hz]
    · rw [if_neg hz] at h1
      rw [if_neg (by omega), if_pos (by omega), ← hti, if_pos (by omega), hw]
      refine refshow_l0 toks h hn tx ht hj m (i + 1) _ (by omega) ?_
      rw [append_list, ha, LX.joinF, if_neg hz, List.append_nil]

theorem refshow_f (toks : List LX.Tok) (h : LX.sumL toks ≤ 262144) (hn : toks.length ≤ 131072) :
    ∃ S : ByteArray, (∃ K, ∀ k, K ≤ k → octroiref30_Show.f k (toks.map mk69) = some S) ∧ S.data.toList = LX.joinR false (toks.map LX.txt) := by
  have e := LX.joinF_all (fun i => (rd_T69 (toks.map mk69) (i : Int)).f2) toks (fun i hi => by
    show (rd_T69 (toks.map mk69) (i : Int)).f2.data.toList = _
    rw [rd69 toks i hi]
    rfl)
  have hl := LX.joinR_len false toks
  obtain ⟨S, h1, h2⟩ := refshow_l0 toks h hn (fun i => (rd_T69 (toks.map mk69) (i : Int)).f2) (fun i _ => rfl) (by rw [e]; omega) toks.length 0 ⟨#[]⟩ (by omega) rfl
  refine ⟨S, ⟨toks.length + 1, fun k hk => ?_⟩, by rw [h2, e]⟩
  unfold octroiref30_Show.f
  have hmono : ∀ d, octroiref30_Show.l0 (toks.length + 1 + d) (toks.map mk69) (⟨#[]⟩ : ByteArray) 0 = some S := by
    intro d
    induction d with
    | zero => exact h1
    | succ d ih => exact octroiref30_Show.mono_l _ _ _ _ _ ih
  have := hmono (k - (toks.length + 1))
  rwa [Nat.add_sub_cancel' hk] at this

theorem same_l0 (toks : List LX.Tok) (hn : toks.length ≤ 131072) : ∀ m i : Nat, i + m = toks.length → octroilaw30_same.l0 (m + 1) (toks.map mk57) (toks.map mk69) ((toks.map mk57).length : Int) (i : Int) = some true
  | 0, i, hi => by
    rw [octroilaw30_same.l0, if_neg (by rw [List.length_map]; omega)]
  | m + 1, i, hi => by
    have hw : wrap64 ((i : Int) + 1) = ((i + 1 : Nat) : Int) := by rw [wrap_id _ (by omega) (by omega)]; rfl
    rw [octroilaw30_same.l0, if_pos (by rw [List.length_map]; omega), if_pos (by omega), if_pos (by rw [List.length_map]; omega), if_pos (by rw [List.length_map]; omega), rd57 toks i (by omega), rd69 toks i (by omega)]
    rw [if_neg (by simp [mk57, mk69]), hw]
    exact same_l0 toks hn m (i + 1) (by omega)
theorem same_f (toks : List LX.Tok) (hn : toks.length ≤ 131072) : ∃ K, ∀ k, K ≤ k → octroilaw30_same.f k (toks.map mk57) (toks.map mk69) = some true := by
  refine ⟨toks.length + 1, fun k hk => ?_⟩
  unfold octroilaw30_same.f
  rw [if_pos (by rw [List.length_map, List.length_map])]
  have hmono : ∀ d, octroilaw30_same.l0 (toks.length + 1 + d) (toks.map mk57) (toks.map mk69) ((toks.map mk57).length : Int) 0 = some true := by
    intro d
    induction d with
    | zero => exact same_l0 toks hn toks.length 0 (by omega)
    | succ d ih => exact octroilaw30_same.mono_l _ _ _ _ _ _ ih
  have := hmono (k - (toks.length + 1))
  rwa [Nat.add_sub_cancel' hk] at this

theorem keyword (a : ByteArray) : ∃ b, lexer_Keyword.f a = some b ∧ octroiref30_Keyword.f a = some b := by
  unfold lexer_Keyword.f octroiref30_Keyword.f
  repeat' split
  all_goals first | exact ⟨_, rfl, rfl⟩ | (refine ⟨_, rfl, ?_⟩; simp_all)

theorem LexerReads : octroilaw30_LexerReads.Pure := by
  intro a0 a1 h0 h1
  obtain ⟨⟨toks, r2, r3⟩, hl⟩ := LX.lex_total a0
  have hlf : lexer_Lex.f a0 = some (toks.map mk57, r2, r3) := by
    unfold lexer_Lex.f
    rw [hl]
    rfl
  have hb : toks = [] ∨ a0.size ≤ 65536 := by
    by_cases hs : a0.size > 65536
    · unfold LX.lex at hl
      rw [if_pos hs] at hl
      simp only [Option.some.injEq, Prod.mk.injEq] at hl
      exact Or.inl hl.1.symm
    · exact Or.inr (by omega)
  have hlen : LX.sumL toks ≤ 262144 ∧ toks.length ≤ 131072 := by
    rcases hb with rfl | hb
    · simp [LX.sumL]
    · have := LX.lex_len a0 toks r2 r3 hl
      omega
  obtain ⟨K1, hK1⟩ := ref_lex a0 toks r2 r3 hl
  obtain ⟨K2, hK2⟩ := same_f toks hlen.2
  obtain ⟨S, hS, hSl⟩ := show_f toks hlen.1 hlen.2
  obtain ⟨S', ⟨K3, hK3⟩, hSl'⟩ := refshow_f toks hlen.1 hlen.2
  obtain ⟨b, hk1, hk2⟩ := keyword a1
  have hSS : S = S' := bytes_ext (hSl.trans hSl'.symm)
  subst hSS
  have hj : ∀ x, octroilaw30_LexerReads.j0 (K1 + K2 + K3 + 1) a0 a1 x = some true := by
    intro x
    rw [octroilaw30_LexerReads.j0]
    by_cases hx : x = true
    · rw [if_pos hx, lives]
      rfl
    · rw [if_neg hx, hlf, Option.bind_some, hK1 _ (by omega), Option.bind_some, hK2 _ (by omega), Option.bind_some]
      simp only [if_true]
      rw [hS, Option.bind_some, hK3 _ (by omega), Option.bind_some, if_pos rfl, hk1, Option.bind_some, hk2, Option.bind_some, if_pos (by simp), lives]
      rfl
  refine ⟨K1 + K2 + K3 + 1, ?_⟩
  unfold octroilaw30_LexerReads.f
  repeat' split
  all_goals exact hj _

end Go.Proofs.Ytejmbnahdkgpmaa.Pure
