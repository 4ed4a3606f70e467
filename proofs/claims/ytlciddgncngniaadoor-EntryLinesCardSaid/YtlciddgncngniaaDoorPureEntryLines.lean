/-
  The law EntryLines, over lists and numbers alone.
-/
import Derived.Test.YtlciddgncngniaaDoorXEntryLinesxr
namespace Go.Proofs.YtlciddgncngniaaDoor.Pure
open Go.RowKit Go.Proofs.YtlciddgncngniaaDoor.XEntryLines Go.Proofs.YtlciddgncngniaaDoorW.PrintWords Go.Proofs.YtlciddgncngniaaDoorW.PrintLast Go.Proofs.YtlciddgncngniaaDoor.Opens
set_option linter.unusedVariables false
set_option linter.unusedSimpArgs false
set_option linter.unnecessarySimpa false

theorem it1900 : Lib.itoa 1900 = [49, 57, 48, 48] := by simp [Lib.itoa, Lib.decDigits]
theorem it1000 : Lib.itoa 1000 = [49, 48, 48, 48] := by simp [Lib.itoa, Lib.decDigits]
theorem it190 : Lib.itoa 190 = [49, 57, 48] := by simp [Lib.itoa, Lib.decDigits]
theorem it0 : Lib.itoa 0 = [48] := by simp [Lib.itoa, Lib.decDigits]
theorem livesL : lineL ⟨#[104, 111, 109, 101]⟩ true false 1900 1000 190 190 0 = [104, 111, 109, 101, 32, 83, 32, 49, 57, 48, 48, 32, 49, 48, 48, 48, 32, 49, 57, 48, 32, 49, 57, 48, 32, 48] := by
  unfold lineL
  simp [EN.numsL, it1900, it1000, it190, it0]
theorem lives_line : entry_Line.f 0 0 0 0 0 0 (⟨#[97]⟩ : ByteArray) true 1 1 1900 (⟨#[68, 69]⟩ : ByteArray) (⟨#[]⟩ : ByteArray) 1000 190 0 false = some ⟨#[104, 111, 109, 101, 32, 83, 32, 49, 57, 48, 48, 32, 49, 48, 48, 48, 32, 49, 57, 48, 32, 49, 57, 48, 32, 48]⟩ := by
  have hN : treat_Name.f 1 = some ⟨#[104, 111, 109, 101]⟩ := rfl
  have hO : entry_Owed.f 0 0 0 0 0 0 (⟨#[97]⟩ : ByteArray) true 1 1 1900 (⟨#[68, 69]⟩ : ByteArray) (⟨#[]⟩ : ByteArray) 1000 190 0 false = some 190 := rfl
  have hT : entry_Late.f 0 0 0 0 0 0 (⟨#[97]⟩ : ByteArray) true 1 1 1900 (⟨#[68, 69]⟩ : ByteArray) (⟨#[]⟩ : ByteArray) 1000 190 0 false = some false := rfl
  unfold entry_Line.f
  rw [hN, Option.bind_some, hO, Option.bind_some, hT, Option.bind_some, if_pos (by decide), livesL]
theorem lives : octroilaw25_lives.f = some true := by
  unfold octroilaw25_lives.f octroilaw24_Sold.f
  rw [Option.bind_some]
  show (entry_Line.f 0 0 0 0 0 0 (⟨#[97]⟩ : ByteArray) true 1 1 1900 (⟨#[68, 69]⟩ : ByteArray) (⟨#[]⟩ : ByteArray) 1000 190 0 false).bind _ = _
  rw [lives_line, Option.bind_some, ByteArray.toList_eq]
  rfl
theorem owed (a0_0 : Int) (a0_1 : Int) (a0_2 : Int) (a0_3 : Int) (a0_4 : Int) (a0_5 : Int) (a0_6 : ByteArray) (a0_7 : Bool) (a0_8 : Int) (a0_9 : Int) (a0_10 : Int) (a0_11 : ByteArray) (a0_12 : ByteArray) (a0_13 : Int) (a0_14 : Int) (a0_15 : Int) (a0_16 : Bool) : ∃ ow, entry_Owed.f a0_0 a0_1 a0_2 a0_3 a0_4 a0_5 a0_6 a0_7 a0_8 a0_9 a0_10 a0_11 a0_12 a0_13 a0_14 a0_15 a0_16 = some ow ∧ (ow = a0_14 ∨ ow = 0) := by
  unfold entry_Owed.f treat_Output.f treat_Deducts.f
  repeat' split
  all_goals first | exact ⟨_, rfl, Or.inl rfl⟩ | exact ⟨_, rfl, Or.inr rfl⟩ | skip
  all_goals simp only [Option.bind_some]
  all_goals repeat' split
  all_goals first | exact ⟨_, rfl, Or.inl rfl⟩ | exact ⟨_, rfl, Or.inr rfl⟩ | skip
  all_goals simp only [Option.bind_some]
  all_goals repeat' split
  all_goals first | exact ⟨_, rfl, Or.inl rfl⟩ | exact ⟨_, rfl, Or.inr rfl⟩
/-! ### the reference's decimal numeral is the library's -/
def revD : Nat → Nat → List Int
  | 0, _ => []
  | f + 1, u => if u < 10 then [48 + (u : Int)] else (48 + ((u % 10 : Nat) : Int)) :: revD f (u / 10)
theorem revD_dec : ∀ (f u : Nat), u < f → (revD f u).reverse = (Lib.decDigits u).map (fun c => ((c.toNat : Nat) : Int))
  | 0, u, h => by omega
  | f + 1, u, h => by
    rw [revD, Lib.decDigits]
    by_cases h10 : u < 10
    · rw [if_pos h10, dif_pos h10]
      simp only [List.reverse_cons, List.reverse_nil, List.nil_append, List.map_cons, List.map_nil, List.cons.injEq, and_true]
      rw [UInt8.toNat_ofNat']
      omega
    · rw [if_neg h10, dif_neg h10, List.reverse_cons, revD_dec f (u / 10) (by omega), List.map_append]
      congr 1
      simp only [List.map_cons, List.map_nil, List.cons.injEq, and_true]
      rw [UInt8.toNat_ofNat']
      omega
theorem revD_len : ∀ (f u b : Nat), u < f → u < 10 ^ b → 1 ≤ b → (revD f u).length ≤ b
  | 0, u, b, h, _, _ => by omega
  | f + 1, u, b, h, hb, h1 => by
    rw [revD]
    by_cases h10 : u < 10
    · rw [if_pos h10]
      exact h1
    · rw [if_neg h10, List.length_cons]
      obtain ⟨c, rfl⟩ : ∃ c, b = c + 1 := ⟨b - 1, by omega⟩
      have hc : 1 ≤ c := by
        rcases Nat.eq_zero_or_pos c with rfl | h
        · rw [Nat.zero_add, Nat.pow_one] at hb
          omega
        · exact h
      have := revD_len f (u / 10) c (by omega) (by rw [Nat.pow_succ] at hb; omega) hc
      omega
theorem dec_round (k : Nat) (x0 : Int) (l : List Int) (m : Int) (h0 : m ≠ 0) (hb : -9223372036854775808 ≤ m ∧ m ≤ 9223372036854775807) (hl : l.length < 140737488355328) :
    octroiref25_Decimal.l0 (k + 1) x0 l m = octroiref25_Decimal.l0 k x0 (l ++ [48 + ((m.natAbs % 10 : Nat) : Int)]) (if m < 0 then -((m.natAbs / 10 : Nat) : Int) else ((m.natAbs / 10 : Nat) : Int)) := by
  rw [octroiref25_Decimal.l0, if_neg h0]
  by_cases hn : m < 0
  · obtain ⟨u, hu⟩ : ∃ u : Nat, m = -(u : Int) := ⟨m.natAbs, by omega⟩
    subst hu
    have e1 : Int.tmod (-(u : Int)) 10 = -((u % 10 : Nat) : Int) := by rw [Int.neg_tmod]; rfl
    have e2 : Int.tdiv (-(u : Int)) 10 = -((u / 10 : Nat) : Int) := by rw [Int.neg_tdiv]; rfl
    have e3 : (-(u : Int)).natAbs = u := by omega
    rw [e1, e2, e3, if_pos hn]
    have w1 : wrap64 (-((u / 10 : Nat) : Int)) = -((u / 10 : Nat) : Int) := by unfold wrap64; omega
    have w2 : wrap64 (48 + (wrap64 (-(-((u % 10 : Nat) : Int))))) % 256 = 48 + ((u % 10 : Nat) : Int) := by unfold wrap64; omega
    have w3 : wrap64 (48 + (-((u % 10 : Nat) : Int))) % 256 = 48 + (-((u % 10 : Nat) : Int)) := by unfold wrap64; omega
    rw [w1, w2, w3]
    by_cases hz : -((u % 10 : Nat) : Int) < 0
    · rw [if_pos hz, if_pos hl]
    · rw [if_neg hz, if_pos hl]
      have : (u % 10 : Nat) = 0 := by omega
      rw [this]
      rfl
  · obtain ⟨u, hu⟩ : ∃ u : Nat, m = (u : Int) := ⟨m.natAbs, by omega⟩
    subst hu
    have e1 : Int.tmod (u : Int) 10 = ((u % 10 : Nat) : Int) := rfl
    have e2 : Int.tdiv (u : Int) 10 = ((u / 10 : Nat) : Int) := rfl
    have e3 : ((u : Int)).natAbs = u := by omega
    rw [e1, e2, e3, if_neg hn, if_neg (by omega), if_pos hl]
    have w1 : wrap64 ((u / 10 : Nat) : Int) = ((u / 10 : Nat) : Int) := by unfold wrap64; omega
    have w2 : wrap64 (48 + ((u % 10 : Nat) : Int)) % 256 = 48 + ((u % 10 : Nat) : Int) := by unfold wrap64; omega
    rw [w1, w2]
theorem dec_loop (x0 : Int) : ∀ (f : Nat) (u : Nat) (s : Bool) (l : List Int), u < f → 0 < u → u ≤ 9223372036854775808 → (s = false → u ≤ 9223372036854775807) → l.length + (revD f u).length < 140737488355328 →
    ∃ K, ∀ k, octroiref25_Decimal.l0 (k + K) x0 l (if s = true then -(u : Int) else (u : Int)) = octroiref25_Decimal.l0 k x0 (l ++ revD f u) 0
  | 0, u, s, l, h, _, _, _, _ => by omega
  | f + 1, u, s, l, h, hp, hb, hs, hl => by
    have hm : (if s = true then -(u : Int) else (u : Int)) ≠ 0 := by split <;> omega
    have hbm : -9223372036854775808 ≤ (if s = true then -(u : Int) else (u : Int)) ∧ (if s = true then -(u : Int) else (u : Int)) ≤ 9223372036854775807 := by
      cases s
      · have := hs rfl
        simp
        omega
      · simp
        omega
    have hna : (if s = true then -(u : Int) else (u : Int)).natAbs = u := by split <;> omega
    have hlt : ((if s = true then -(u : Int) else (u : Int)) < 0) ↔ s = true := by
      cases s
      · first | (simp; done) | (simp; omega)
      · first | (simp; done) | (simp; omega)
    have hr := fun k => dec_round k x0 l _ hm hbm (by omega)
    rw [hna] at hr
    by_cases h10 : u < 10
    · refine ⟨1, fun k => ?_⟩
      have e : revD (f + 1) u = [48 + (u : Int)] := by rw [revD, if_pos h10]
      rw [hr k, e]
      have h1 : u / 10 = 0 := by omega
      have h2 : u % 10 = u := by omega
      rw [h1, h2]
      have h3 : (if (if s = true then -(u : Int) else (u : Int)) < 0 then -((0 : Nat) : Int) else ((0 : Nat) : Int)) = 0 := by simp
      rw [h3]
    · have e : revD (f + 1) u = (48 + ((u % 10 : Nat) : Int)) :: revD f (u / 10) := by rw [revD, if_neg h10]
      rw [e, List.length_cons] at hl
      obtain ⟨K, hK⟩ := dec_loop x0 f (u / 10) s (l ++ [48 + ((u % 10 : Nat) : Int)]) (by omega) (by omega) (by omega) (fun h => by have := hs h; omega) (by rw [List.length_append, List.length_singleton]; omega)
      refine ⟨K + 1, fun k => ?_⟩
      rw [← Nat.add_assoc, hr, e]
      have : (if (if s = true then -(u : Int) else (u : Int)) < 0 then -((u / 10 : Nat) : Int) else ((u / 10 : Nat) : Int)) = (if s = true then -((u / 10 : Nat) : Int) else ((u / 10 : Nat) : Int)) := by
        by_cases hs2 : s = true
        · rw [if_pos (hlt.2 hs2), if_pos hs2]
        · rw [if_neg (fun h => hs2 (hlt.1 h)), if_neg hs2]
      rw [this, hK k, List.append_assoc]
      rfl
theorem dec_rev (l : List Int) (hl : l.length < 140737488355328) : ∀ (n : Nat) (acc : List Int), n ≤ l.length → acc = (l.drop n).reverse →
    ∃ K, ∀ k, octroiref25_Decimal.l1 (k + K) l acc ((n : Int) - 1) = some (strOfNums l.reverse)
  | 0, acc, hn, ha => by
    refine ⟨1, fun k => ?_⟩
    rw [octroiref25_Decimal.l1, if_neg (by omega), ha, List.drop_zero]
  | n + 1, acc, hn, ha => by
    have hd : l.drop n = l[n] :: l.drop (n + 1) := List.drop_eq_getElem_cons (by omega)
    obtain ⟨K, hK⟩ := dec_rev l hl n (acc ++ [rd l ((n : Int))]) (by omega) (by
      rw [ha, hd, List.reverse_cons]
      congr 1
      unfold rd
      rw [List.getD_eq_getElem?_getD, Int.toNat_natCast, List.getElem?_eq_getElem (by omega)]
      rfl)
    refine ⟨K + 1, fun k => ?_⟩
    have e : ((n + 1 : Nat) : Int) - 1 = (n : Int) := by omega
    have hal : acc.length < 140737488355328 := by rw [ha, List.length_reverse, List.length_drop]; omega
    have w1 : wrap64 ((n : Int) - 1) = (n : Int) - 1 := by unfold wrap64; omega
    rw [← Nat.add_assoc, e, octroiref25_Decimal.l1, if_pos (by omega), if_pos (by omega), if_pos (by omega), if_pos hal, w1]
    exact hK k
theorem str_bytes (l : List UInt8) : strOfNums (l.map fun c => ((c.toNat : Nat) : Int)) = ⟨l.toArray⟩ := by
  unfold strOfNums
  congr 1
  simp [List.map_map, Function.comp_def]
theorem decimal_f (n : Int) (h : -9223372036854775808 ≤ n ∧ n ≤ 9223372036854775807) : ∃ K, ∀ k, octroiref25_Decimal.f (k + K) n = some ⟨(Lib.itoa n).toArray⟩ := by
  by_cases h0 : n = 0
  · subst h0
    refine ⟨0, fun k => ?_⟩
    unfold octroiref25_Decimal.f
    rw [if_pos rfl]
    simp [Lib.itoa, Lib.decDigits]
  · have hp : 0 < n.natAbs := by omega
    have hl1 := revD_len (n.natAbs + 1) n.natAbs 20 (by omega) (by omega) (by omega)
    obtain ⟨K, hK⟩ := dec_loop n (n.natAbs + 1) n.natAbs (decide (n < 0)) [] (by omega) hp (by omega) (fun h => by have := of_decide_eq_false h; omega) (by simp; omega)
    have e : (if decide (n < 0) = true then -(n.natAbs : Int) else (n.natAbs : Int)) = n := by
      by_cases hn : n < 0
      · rw [if_pos (decide_eq_true hn)]
        omega
      · rw [if_neg (by simpa using hn)]
        omega
    rw [e] at hK
    have hrev := revD_dec (n.natAbs + 1) n.natAbs (by omega)
    generalize revD (n.natAbs + 1) n.natAbs = R at hK hrev hl1
    by_cases hn : n < 0
    · obtain ⟨K2, hK2⟩ := dec_rev (R ++ [45]) (by rw [List.length_append]; simp; omega) (R ++ [45]).length [] (Nat.le_refl _) (by rw [List.drop_length]; rfl)
      refine ⟨K2 + 1 + 1 + K, fun k => ?_⟩
      unfold octroiref25_Decimal.f
      rw [if_neg h0, ← Nat.add_assoc, hK, ← Nat.add_assoc, octroiref25_Decimal.l0, if_pos rfl, if_pos hn, if_pos (by simp; omega), ← Nat.add_assoc, octroiref25_Decimal.j1]
      have w1 : wrap64 (((([] ++ R) ++ [45]).length : Int) - 1) = (((R ++ [45]).length : Nat) : Int) - 1 := by
        rw [List.nil_append]
        unfold wrap64
        have : (R ++ [45]).length = R.length + 1 := by simp
        omega
      rw [w1, List.nil_append, hK2]
      congr 1
      have : (R ++ [45]).reverse = (45 :: Lib.decDigits n.natAbs).map (fun c => ((c.toNat : Nat) : Int)) := by
        rw [List.reverse_append, hrev]
        rfl
      rw [this, str_bytes]
      unfold Lib.itoa
      rw [if_pos hn]
    · obtain ⟨K2, hK2⟩ := dec_rev R (by omega) R.length [] (Nat.le_refl _) (by rw [List.drop_length]; rfl)
      refine ⟨K2 + 1 + 1 + K, fun k => ?_⟩
      unfold octroiref25_Decimal.f
      rw [if_neg h0, ← Nat.add_assoc, hK, ← Nat.add_assoc, octroiref25_Decimal.l0, if_pos rfl, if_neg hn, ← Nat.add_assoc, octroiref25_Decimal.j1]
      have w1 : wrap64 (((([] ++ R)).length : Int) - 1) = ((R.length : Nat) : Int) - 1 := by
        rw [List.nil_append]
        unfold wrap64
        omega
      rw [w1, List.nil_append, hK2]
      congr 1
      rw [hrev, str_bytes]
      unfold Lib.itoa
      rw [if_neg hn]
      have : n.toNat = n.natAbs := by omega
      rw [this]
theorem owed_same (a0_0 : Int) (a0_1 : Int) (a0_2 : Int) (a0_3 : Int) (a0_4 : Int) (a0_5 : Int) (a0_6 : ByteArray) (a0_7 : Bool) (a0_8 : Int) (a0_9 : Int) (a0_10 : Int) (a0_11 : ByteArray) (a0_12 : ByteArray) (a0_13 : Int) (a0_14 : Int) (a0_15 : Int) (a0_16 : Bool) : octroiref25_Owed.f a0_0 a0_1 a0_2 a0_3 a0_4 a0_5 a0_6 a0_7 a0_8 a0_9 a0_10 a0_11 a0_12 a0_13 a0_14 a0_15 a0_16 = entry_Owed.f a0_0 a0_1 a0_2 a0_3 a0_4 a0_5 a0_6 a0_7 a0_8 a0_9 a0_10 a0_11 a0_12 a0_13 a0_14 a0_15 a0_16 := by
  unfold octroiref25_Owed.f entry_Owed.f octroiref18_Output.f treat_Output.f octroiref18_Deducts.f treat_Deducts.f
  by_cases h1 : a0_9 = 1
  · simp [h1]
  · by_cases h3 : a0_9 = 3
    · simp [h3]
    · by_cases h9 : a0_9 = 9
      · simp [h9]
      · by_cases h12 : a0_9 = 12
        · simp [h12]
        · by_cases h13 : a0_9 = 13
          · simp [h13]
          · by_cases h14 : a0_9 = 14
            · simp [h14]
            · simp only [h1, h3, h9, h12, h13, h14, if_false]
              by_cases h : a0_9 ≥ 12
              · have : ¬ a0_9 ≤ 14 := by omega
                simp [h, this]
              · simp [h]
theorem late_same (a0_0 : Int) (a0_1 : Int) (a0_2 : Int) (a0_3 : Int) (a0_4 : Int) (a0_5 : Int) (a0_6 : ByteArray) (a0_7 : Bool) (a0_8 : Int) (a0_9 : Int) (a0_10 : Int) (a0_11 : ByteArray) (a0_12 : ByteArray) (a0_13 : Int) (a0_14 : Int) (a0_15 : Int) (a0_16 : Bool) : octroiref25_Late.f a0_0 a0_1 a0_2 a0_3 a0_4 a0_5 a0_6 a0_7 a0_8 a0_9 a0_10 a0_11 a0_12 a0_13 a0_14 a0_15 a0_16 = entry_Late.f a0_0 a0_1 a0_2 a0_3 a0_4 a0_5 a0_6 a0_7 a0_8 a0_9 a0_10 a0_11 a0_12 a0_13 a0_14 a0_15 a0_16 := rfl
theorem append_list (a b : ByteArray) : (a ++ b).data.toList = a.data.toList ++ b.data.toList := by
  rw [ByteArray.data_append, Array.toList_append]
theorem j0_line (k : Nat) (x3 t1 t2 t3 t4 t5 : ByteArray) (hx : x3.size ≤ 1100) (h1 : t1.size ≤ 21) (h2 : t2.size ≤ 21) (h3 : t3.size ≤ 21) (h4 : t4.size ≤ 21) (h5 : t5.size ≤ 21) (a0_0 : Int) (a0_1 : Int) (a0_2 : Int) (a0_3 : Int) (a0_4 : Int) (a0_5 : Int) (a0_6 : ByteArray) (a0_7 : Bool) (a0_8 : Int) (a0_9 : Int) (a0_10 : Int) (a0_11 : ByteArray) (a0_12 : ByteArray) (a0_13 : Int) (a0_14 : Int) (a0_15 : Int) (a0_16 : Bool) (ow : Int) (late : Bool)
    (d1 : octroiref25_Decimal.f k a0_10 = some t1) (d2 : octroiref25_Decimal.f k a0_13 = some t2) (d3 : octroiref25_Decimal.f k a0_14 = some t3) (hO : octroiref25_Owed.f a0_0 a0_1 a0_2 a0_3 a0_4 a0_5 a0_6 a0_7 a0_8 a0_9 a0_10 a0_11 a0_12 a0_13 a0_14 a0_15 a0_16 = some ow) (d4 : octroiref25_Decimal.f k ow = some t4) (d5 : octroiref25_Decimal.f k a0_15 = some t5) (hL : octroiref25_Late.f a0_0 a0_1 a0_2 a0_3 a0_4 a0_5 a0_6 a0_7 a0_8 a0_9 a0_10 a0_11 a0_12 a0_13 a0_14 a0_15 a0_16 = some late) :
    ∃ R : ByteArray, octroiref25_Line.j0 (k + 1) x3 a0_0 a0_1 a0_2 a0_3 a0_4 a0_5 a0_6 a0_7 a0_8 a0_9 a0_10 a0_11 a0_12 a0_13 a0_14 a0_15 a0_16 = some R ∧ R.data.toList = x3.data.toList ++ (32 :: t1.data.toList) ++ (32 :: t2.data.toList) ++ (32 :: t3.data.toList) ++ (32 :: t4.data.toList) ++ (32 :: t5.data.toList) ++ (if late = true then [32, 76] else []) := by
  have z1 : (⟨#[32]⟩ : ByteArray).size = 1 := rfl
  have l1 : (⟨#[32]⟩ : ByteArray).data.toList = [32] := rfl
  have l2 : (⟨#[32, 76]⟩ : ByteArray).data.toList = [32, 76] := rfl
  rw [octroiref25_Line.j0]
  rw [if_pos (by omega), d1, Option.bind_some, if_pos (by simp only [ByteArray.size_append, z1]; omega), if_pos (by simp only [ByteArray.size_append, z1]; omega)]
  rw [d2, Option.bind_some, if_pos (by simp only [ByteArray.size_append, z1]; omega), if_pos (by simp only [ByteArray.size_append, z1]; omega)]
  rw [d3, Option.bind_some, if_pos (by simp only [ByteArray.size_append, z1]; omega), if_pos (by simp only [ByteArray.size_append, z1]; omega)]
  rw [hO, Option.bind_some, d4, Option.bind_some, if_pos (by simp only [ByteArray.size_append, z1]; omega), if_pos (by simp only [ByteArray.size_append, z1]; omega)]
  rw [d5, Option.bind_some, if_pos (by simp only [ByteArray.size_append, z1]; omega), hL, Option.bind_some]
  cases late
  · refine ⟨_, by rw [if_neg (by simp)], ?_⟩
    simp only [append_list, l1]
    simp
  · refine ⟨_, by rw [if_pos rfl, if_pos (by simp only [ByteArray.size_append, z1]; omega)], ?_⟩
    simp only [append_list, l1, l2]
    simp
theorem name_same (t : Int) : octroiref18_Name.f t = some (EN.nameS t) := by
  unfold octroiref18_Name.f
  by_cases h : 0 ≤ t ∧ t < 16
  · have h16 : t = 0 ∨ t = 1 ∨ t = 2 ∨ t = 3 ∨ t = 4 ∨ t = 5 ∨ t = 6 ∨ t = 7 ∨ t = 8 ∨ t = 9 ∨ t = 10 ∨ t = 11 ∨ t = 12 ∨ t = 13 ∨ t = 14 ∨ t = 15 := by omega
    rcases h16 with rfl | rfl | rfl | rfl | rfl | rfl | rfl | rfl | rfl | rfl | rfl | rfl | rfl | rfl | rfl | rfl <;> rfl
  · have e : EN.nameS t = (⟨#[]⟩ : ByteArray) := by unfold EN.nameS; rw [if_neg h]
    rw [e]
    repeat rw [if_neg (by omega)]
theorem name_size (t : Int) : (EN.nameS t).size ≤ 1000 := by
  by_cases h : 0 ≤ t ∧ t < 16
  · have h16 : t = 0 ∨ t = 1 ∨ t = 2 ∨ t = 3 ∨ t = 4 ∨ t = 5 ∨ t = 6 ∨ t = 7 ∨ t = 8 ∨ t = 9 ∨ t = 10 ∨ t = 11 ∨ t = 12 ∨ t = 13 ∨ t = 14 ∨ t = 15 := by omega
    rcases h16 with rfl | rfl | rfl | rfl | rfl | rfl | rfl | rfl | rfl | rfl | rfl | rfl | rfl | rfl | rfl | rfl <;> decide
  · have e : EN.nameS t = (⟨#[]⟩ : ByteArray) := by unfold EN.nameS; rw [if_neg h]
    rw [e]
    decide
theorem it_size (n : Int) (h : -9223372036854775808 ≤ n ∧ n ≤ 9223372036854775807) : (⟨(Lib.itoa n).toArray⟩ : ByteArray).size ≤ 21 := by
  show (Lib.itoa n).toArray.size ≤ 21
  rw [List.size_toArray]
  exact Lib.itoa_length_le n h.1 h.2
theorem same_line (a0_0 : Int) (a0_1 : Int) (a0_2 : Int) (a0_3 : Int) (a0_4 : Int) (a0_5 : Int) (a0_6 : ByteArray) (a0_7 : Bool) (a0_8 : Int) (a0_9 : Int) (a0_10 : Int) (a0_11 : ByteArray) (a0_12 : ByteArray) (a0_13 : Int) (a0_14 : Int) (a0_15 : Int) (a0_16 : Bool) (b1 : -9223372036854775808 ≤ a0_10 ∧ a0_10 ≤ 9223372036854775807) (b2 : -9223372036854775808 ≤ a0_13 ∧ a0_13 ≤ 9223372036854775807) (b3 : -9223372036854775808 ≤ a0_14 ∧ a0_14 ≤ 9223372036854775807) (b5 : -9223372036854775808 ≤ a0_15 ∧ a0_15 ≤ 9223372036854775807) :
    ∃ K R S, octroiref25_Line.f K a0_0 a0_1 a0_2 a0_3 a0_4 a0_5 a0_6 a0_7 a0_8 a0_9 a0_10 a0_11 a0_12 a0_13 a0_14 a0_15 a0_16 = some R ∧ entry_Line.f a0_0 a0_1 a0_2 a0_3 a0_4 a0_5 a0_6 a0_7 a0_8 a0_9 a0_10 a0_11 a0_12 a0_13 a0_14 a0_15 a0_16 = some S ∧ S.toList = R.toList := by
  obtain ⟨ow, hO, ho⟩ := owed a0_0 a0_1 a0_2 a0_3 a0_4 a0_5 a0_6 a0_7 a0_8 a0_9 a0_10 a0_11 a0_12 a0_13 a0_14 a0_15 a0_16
  have b4 : -9223372036854775808 ≤ ow ∧ ow ≤ 9223372036854775807 := by
    rcases ho with rfl | rfl
    · exact b3
    · exact ⟨by omega, by omega⟩
  have hO2 := owed_same a0_0 a0_1 a0_2 a0_3 a0_4 a0_5 a0_6 a0_7 a0_8 a0_9 a0_10 a0_11 a0_12 a0_13 a0_14 a0_15 a0_16
  rw [hO] at hO2
  obtain ⟨late, hL⟩ : ∃ late, entry_Late.f a0_0 a0_1 a0_2 a0_3 a0_4 a0_5 a0_6 a0_7 a0_8 a0_9 a0_10 a0_11 a0_12 a0_13 a0_14 a0_15 a0_16 = some late := ⟨_, rfl⟩
  have hL2 := late_same a0_0 a0_1 a0_2 a0_3 a0_4 a0_5 a0_6 a0_7 a0_8 a0_9 a0_10 a0_11 a0_12 a0_13 a0_14 a0_15 a0_16
  rw [hL] at hL2
  obtain ⟨K1, d1⟩ := decimal_f a0_10 b1
  obtain ⟨K2, d2⟩ := decimal_f a0_13 b2
  obtain ⟨K3, d3⟩ := decimal_f a0_14 b3
  obtain ⟨K4, d4⟩ := decimal_f ow b4
  obtain ⟨K5, d5⟩ := decimal_f a0_15 b5
  have e1 := d1 (K2 + K3 + K4 + K5)
  have e2 := d2 (K1 + K3 + K4 + K5)
  have e3 := d3 (K1 + K2 + K4 + K5)
  have e4 := d4 (K1 + K2 + K3 + K5)
  have e5 := d5 (K1 + K2 + K3 + K4)
  rw [show K2 + K3 + K4 + K5 + K1 = K1 + K2 + K3 + K4 + K5 by omega] at e1
  rw [show K1 + K3 + K4 + K5 + K2 = K1 + K2 + K3 + K4 + K5 by omega] at e2
  rw [show K1 + K2 + K4 + K5 + K3 = K1 + K2 + K3 + K4 + K5 by omega] at e3
  rw [show K1 + K2 + K3 + K5 + K4 = K1 + K2 + K3 + K4 + K5 by omega] at e4
  generalize K1 + K2 + K3 + K4 + K5 = K at e1 e2 e3 e4 e5
  have hn := name_size a0_9
  have hin : ∀ n : Int, (-9223372036854775808 ≤ n ∧ n ≤ 9223372036854775807) → in64 n = true := fun n h => by unfold in64; exact decide_eq_true h
  have hS : entry_Line.f a0_0 a0_1 a0_2 a0_3 a0_4 a0_5 a0_6 a0_7 a0_8 a0_9 a0_10 a0_11 a0_12 a0_13 a0_14 a0_15 a0_16 = some ⟨(lineL (EN.nameS a0_9) a0_7 late a0_10 a0_13 a0_14 ow a0_15).toArray⟩ := by
    unfold entry_Line.f treat_Name.f
    rw [Option.bind_some, hO, Option.bind_some, hL, Option.bind_some, if_pos ⟨hn, hin _ b1, hin _ b2, hin _ b3, hin _ b4, hin _ b5⟩]
  have l1 : (⟨#[32, 83]⟩ : ByteArray).data.toList = [32, 83] := rfl
  have l2 : (⟨#[32, 80]⟩ : ByteArray).data.toList = [32, 80] := rfl
  have q1 := it_size _ b1
  have q2 := it_size _ b2
  have q3 := it_size _ b3
  have q4 := it_size _ b4
  have q5 := it_size _ b5
  cases a0_7
  · obtain ⟨R, hR, hRl⟩ := j0_line K (EN.nameS a0_9 ++ (⟨#[32, 80]⟩ : ByteArray)) _ _ _ _ _ (by rw [ByteArray.size_append]; show (EN.nameS a0_9).size + 2 ≤ 1100; omega) q1 q2 q3 q4 q5 a0_0 a0_1 a0_2 a0_3 a0_4 a0_5 a0_6 false a0_8 a0_9 a0_10 a0_11 a0_12 a0_13 a0_14 a0_15 a0_16 ow late e1 e2 e3 hO2 e4 e5 hL2
    refine ⟨K + 1, R, _, ?_, hS, ?_⟩
    · unfold octroiref25_Line.f
      rw [name_same, Option.bind_some, if_neg (by simp), if_pos (by omega)]
      exact hR
    · rw [ByteArray.toList_eq, ByteArray.toList_eq, hRl, append_list, l2]
      unfold lineL
      simp [EN.numsL]
  · obtain ⟨R, hR, hRl⟩ := j0_line K (EN.nameS a0_9 ++ (⟨#[32, 83]⟩ : ByteArray)) _ _ _ _ _ (by rw [ByteArray.size_append]; show (EN.nameS a0_9).size + 2 ≤ 1100; omega) q1 q2 q3 q4 q5 a0_0 a0_1 a0_2 a0_3 a0_4 a0_5 a0_6 true a0_8 a0_9 a0_10 a0_11 a0_12 a0_13 a0_14 a0_15 a0_16 ow late e1 e2 e3 hO2 e4 e5 hL2
    refine ⟨K + 1, R, _, ?_, hS, ?_⟩
    · unfold octroiref25_Line.f
      rw [name_same, Option.bind_some, if_pos rfl, if_pos (by omega)]
      exact hR
    · rw [ByteArray.toList_eq, ByteArray.toList_eq, hRl, append_list, l1]
      unfold lineL
      simp [EN.numsL]
theorem wf_in {n : Int} (h : (Lit.int .i64 n).wf = true) : -9223372036854775808 ≤ n ∧ n ≤ 9223372036854775807 := by
  simp [Lit.wf, IntKind.min, IntKind.max, IntKind.signed, IntKind.bits] at h
  omega
theorem EntryLines : octroilaw25_EntryLines.Pure := by
  intro x0 hg
  obtain ⟨_, _, _, _, _, _, h6, _, _, h9, h10, h11, _⟩ := hg
  obtain ⟨K, R, S, h1, h2, h3⟩ := same_line x0.f0.f0 x0.f0.f1 x0.f0.f2 x0.f1.f0 x0.f1.f1 x0.f1.f2 x0.f2 x0.f3 x0.f4 x0.f5 x0.f6 x0.f7 x0.f8 x0.f9 x0.f10 x0.f11 x0.f12 (wf_in h6) (wf_in h9) (wf_in h10) (wf_in h11)
  refine ⟨K, ?_⟩
  unfold octroilaw25_EntryLines.f octroilaw24_Light.f
  rw [Option.bind_some]
  split
  · rw [h2, Option.bind_some, h1, Option.bind_some, if_pos h3, lives]
    rfl
  · rw [lives]
    rfl
end Go.Proofs.YtlciddgncngniaaDoor.Pure
