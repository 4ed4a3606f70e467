/-
  The law EntryNames, over lists and numbers alone.
-/
import Derived.Test.YtlciddgncngniaaDoorXEntryNamesxr
namespace Go.Proofs.YtlciddgncngniaaDoor.Pure
open Go.RowKit Go.Proofs.YtlciddgncngniaaDoor.XEntryNames Go.Proofs.YtlciddgncngniaaDoorW.PrintWords Go.Proofs.YtlciddgncngniaaDoorW.PrintLast Go.Proofs.YtlciddgncngniaaDoor.Opens
set_option linter.unusedVariables false
set_option linter.unusedSimpArgs false
set_option linter.unnecessarySimpa false

theorem it1900 : Lib.itoa 1900 = [49, 57, 48, 48] := by simp [Lib.itoa, Lib.decDigits]
theorem it1000 : Lib.itoa 1000 = [49, 48, 48, 48] := by simp [Lib.itoa, Lib.decDigits]
theorem it190 : Lib.itoa 190 = [49, 57, 48] := by simp [Lib.itoa, Lib.decDigits]
theorem it0 : Lib.itoa 0 = [48] := by simp [Lib.itoa, Lib.decDigits]
theorem livesL : lineL ⟨#[104, 111, 109, 101]⟩ true false 1900 1000 190 190 0 = [104, 111, 109, 101, 32, 83, 32, 49, 57, 48, 48, 32, 49, 48, 48, 48, 32, 49, 57, 48, 32, 49, 57, 48, 32, 48] := by
  unfold lineL
  simp [EN.numsL, it1900, it1000, it190, it0]
theorem lives_line : entry_Line.f 0 0 0 0 0 0 (⟨#[97]⟩ : ByteArray) true 1 1 1900 (⟨#[68, 69]⟩ : ByteArray) (⟨#[]⟩ : ByteArray) 1000 190 0 false = some ⟨#[104, 111, 109, 101, 32, 83, 32, 49, 57, 48, 48, 32, 49, 48, 48, 48, 32, 49, 57, 48, 32, 49, 57, 48, 32, 48]⟩ := by
  have hN : treat_Name.f 1 = some ⟨#[104, 111, 109, 101]⟩ := rfl
  have hO : entry_Owed.f 0 0 0 0 0 0 (⟨#[97]⟩ : ByteArray) true 1 1 1900 (⟨#[68, 69]⟩ : ByteArray) (⟨#[]⟩ : ByteArray) 1000 190 0 false = some 190 := rfl
  have hT : entry_Late.f 0 0 0 0 0 0 (⟨#[97]⟩ : ByteArray) true 1 1 1900 (⟨#[68, 69]⟩ : ByteArray) (⟨#[]⟩ : ByteArray) 1000 190 0 false = some false := rfl
  unfold entry_Line.f
  rw [hN, Option.bind_some, hO, Option.bind_some, hT, Option.bind_some, if_pos (by decide), livesL]
theorem lives : octroilaw25_lives.f = some true := by
  unfold octroilaw25_lives.f octroilaw24_Sold.f
  rw [Option.bind_some]
  show (entry_Line.f 0 0 0 0 0 0 (⟨#[97]⟩ : ByteArray) true 1 1 1900 (⟨#[68, 69]⟩ : ByteArray) (⟨#[]⟩ : ByteArray) 1000 190 0 false).bind _ = _
  rw [lives_line, Option.bind_some, ByteArray.toList_eq]
  rfl
theorem owed (a0_0 : Int) (a0_1 : Int) (a0_2 : Int) (a0_3 : Int) (a0_4 : Int) (a0_5 : Int) (a0_6 : ByteArray) (a0_7 : Bool) (a0_8 : Int) (a0_9 : Int) (a0_10 : Int) (a0_11 : ByteArray) (a0_12 : ByteArray) (a0_13 : Int) (a0_14 : Int) (a0_15 : Int) (a0_16 : Bool) : ∃ ow, entry_Owed.f a0_0 a0_1 a0_2 a0_3 a0_4 a0_5 a0_6 a0_7 a0_8 a0_9 a0_10 a0_11 a0_12 a0_13 a0_14 a0_15 a0_16 = some ow ∧ (ow = a0_14 ∨ ow = 0) := by
  unfold entry_Owed.f treat_Output.f treat_Deducts.f
  repeat' split
  all_goals first | exact ⟨_, rfl, Or.inl rfl⟩ | exact ⟨_, rfl, Or.inr rfl⟩ | skip
  all_goals simp only [Option.bind_some]
  all_goals repeat' split
  all_goals first | exact ⟨_, rfl, Or.inl rfl⟩ | exact ⟨_, rfl, Or.inr rfl⟩ | skip
  all_goals simp only [Option.bind_some]
  all_goals repeat' split
  all_goals first | exact ⟨_, rfl, Or.inl rfl⟩ | exact ⟨_, rfl, Or.inr rfl⟩
theorem owed_same (a0_0 : Int) (a0_1 : Int) (a0_2 : Int) (a0_3 : Int) (a0_4 : Int) (a0_5 : Int) (a0_6 : ByteArray) (a0_7 : Bool) (a0_8 : Int) (a0_9 : Int) (a0_10 : Int) (a0_11 : ByteArray) (a0_12 : ByteArray) (a0_13 : Int) (a0_14 : Int) (a0_15 : Int) (a0_16 : Bool) : octroiref25_Owed.f a0_0 a0_1 a0_2 a0_3 a0_4 a0_5 a0_6 a0_7 a0_8 a0_9 a0_10 a0_11 a0_12 a0_13 a0_14 a0_15 a0_16 = entry_Owed.f a0_0 a0_1 a0_2 a0_3 a0_4 a0_5 a0_6 a0_7 a0_8 a0_9 a0_10 a0_11 a0_12 a0_13 a0_14 a0_15 a0_16 := by
  unfold octroiref25_Owed.f entry_Owed.f octroiref18_Output.f treat_Output.f octroiref18_Deducts.f treat_Deducts.f
  by_cases h1 : a0_9 = 1
  · simp [h1]
  · by_cases h3 : a0_9 = 3
    · simp [h3]
    · by_cases h9 : a0_9 = 9
      · simp [h9]
      · by_cases h12 : a0_9 = 12
        · simp [h12]
        · by_cases h13 : a0_9 = 13
          · simp [h13]
          · by_cases h14 : a0_9 = 14
            · simp [h14]
            · simp only [h1, h3, h9, h12, h13, h14, if_false]
              by_cases h : a0_9 ≥ 12
              · have : ¬ a0_9 ≤ 14 := by omega
                simp [h, this]
              · simp [h]
theorem late_same (a0_0 : Int) (a0_1 : Int) (a0_2 : Int) (a0_3 : Int) (a0_4 : Int) (a0_5 : Int) (a0_6 : ByteArray) (a0_7 : Bool) (a0_8 : Int) (a0_9 : Int) (a0_10 : Int) (a0_11 : ByteArray) (a0_12 : ByteArray) (a0_13 : Int) (a0_14 : Int) (a0_15 : Int) (a0_16 : Bool) : octroiref25_Late.f a0_0 a0_1 a0_2 a0_3 a0_4 a0_5 a0_6 a0_7 a0_8 a0_9 a0_10 a0_11 a0_12 a0_13 a0_14 a0_15 a0_16 = entry_Late.f a0_0 a0_1 a0_2 a0_3 a0_4 a0_5 a0_6 a0_7 a0_8 a0_9 a0_10 a0_11 a0_12 a0_13 a0_14 a0_15 a0_16 := rfl
theorem field_same (a0_0 : Int) (a0_1 : Int) (a0_2 : Int) (a0_3 : Int) (a0_4 : Int) (a0_5 : Int) (a0_6 : ByteArray) (a0_7 : Bool) (a0_8 : Int) (a0_9 : Int) (a0_10 : Int) (a0_11 : ByteArray) (a0_12 : ByteArray) (a0_13 : Int) (a0_14 : Int) (a0_15 : Int) (a0_16 : Bool) (a1 : ByteArray) : ∃ v b, entry_Field.f a0_0 a0_1 a0_2 a0_3 a0_4 a0_5 a0_6 a0_7 a0_8 a0_9 a0_10 a0_11 a0_12 a0_13 a0_14 a0_15 a0_16 a1 = some (v, b) ∧ octroiref25_Field.f a0_0 a0_1 a0_2 a0_3 a0_4 a0_5 a0_6 a0_7 a0_8 a0_9 a0_10 a0_11 a0_12 a0_13 a0_14 a0_15 a0_16 a1 = some (v, b) := by
  obtain ⟨ow, hO, _⟩ := owed a0_0 a0_1 a0_2 a0_3 a0_4 a0_5 a0_6 a0_7 a0_8 a0_9 a0_10 a0_11 a0_12 a0_13 a0_14 a0_15 a0_16
  have hO2 := owed_same a0_0 a0_1 a0_2 a0_3 a0_4 a0_5 a0_6 a0_7 a0_8 a0_9 a0_10 a0_11 a0_12 a0_13 a0_14 a0_15 a0_16
  rw [hO] at hO2
  unfold entry_Field.f octroiref25_Field.f
  rw [hO, hO2]
  repeat' split
  all_goals exact ⟨_, _, rfl, rfl⟩
theorem tag_same (a0_0 : Int) (a0_1 : Int) (a0_2 : Int) (a0_3 : Int) (a0_4 : Int) (a0_5 : Int) (a0_6 : ByteArray) (a0_7 : Bool) (a0_8 : Int) (a0_9 : Int) (a0_10 : Int) (a0_11 : ByteArray) (a0_12 : ByteArray) (a0_13 : Int) (a0_14 : Int) (a0_15 : Int) (a0_16 : Bool) (a1 : ByteArray) : ∃ v b, entry_Tag.f a0_0 a0_1 a0_2 a0_3 a0_4 a0_5 a0_6 a0_7 a0_8 a0_9 a0_10 a0_11 a0_12 a0_13 a0_14 a0_15 a0_16 a1 = some (v, b) ∧ octroiref25_Tag.f a0_0 a0_1 a0_2 a0_3 a0_4 a0_5 a0_6 a0_7 a0_8 a0_9 a0_10 a0_11 a0_12 a0_13 a0_14 a0_15 a0_16 a1 = some (v, b) := by
  have hl := late_same a0_0 a0_1 a0_2 a0_3 a0_4 a0_5 a0_6 a0_7 a0_8 a0_9 a0_10 a0_11 a0_12 a0_13 a0_14 a0_15 a0_16
  obtain ⟨lt, hL⟩ : ∃ lt, entry_Late.f a0_0 a0_1 a0_2 a0_3 a0_4 a0_5 a0_6 a0_7 a0_8 a0_9 a0_10 a0_11 a0_12 a0_13 a0_14 a0_15 a0_16 = some lt := ⟨_, rfl⟩
  rw [hL] at hl
  unfold entry_Tag.f octroiref25_Tag.f octroiref25_one.f
  rw [hL, hl]
  repeat' split
  all_goals first | exact ⟨_, _, rfl, rfl⟩ | (cases a0_7 <;> exact ⟨_, _, rfl, rfl⟩) | (cases a0_16 <;> exact ⟨_, _, rfl, rfl⟩) | (cases lt <;> exact ⟨_, _, rfl, rfl⟩)
theorem same_fields (k : Nat) : octroiref07_Same.f (k + 5) [(⟨#[98, 97, 115, 101]⟩ : ByteArray), (⟨#[116, 97, 120]⟩ : ByteArray), (⟨#[111, 117, 116]⟩ : ByteArray), (⟨#[105, 110]⟩ : ByteArray)] [(⟨#[98, 97, 115, 101]⟩ : ByteArray), (⟨#[116, 97, 120]⟩ : ByteArray), (⟨#[111, 117, 116]⟩ : ByteArray), (⟨#[105, 110]⟩ : ByteArray)] = some true := by
  unfold octroiref07_Same.f
  rw [if_pos rfl]
  rw [octroiref07_Same.l0, if_pos (by decide), if_pos (by decide), if_pos (by decide), if_pos rfl, show wrap64 ((0 : Int) + 1) = 1 from by unfold wrap64; omega]
  rw [octroiref07_Same.l0, if_pos (by decide), if_pos (by decide), if_pos (by decide), if_pos rfl, show wrap64 ((1 : Int) + 1) = 2 from by unfold wrap64; omega]
  rw [octroiref07_Same.l0, if_pos (by decide), if_pos (by decide), if_pos (by decide), if_pos rfl, show wrap64 ((2 : Int) + 1) = 3 from by unfold wrap64; omega]
  rw [octroiref07_Same.l0, if_pos (by decide), if_pos (by decide), if_pos (by decide), if_pos rfl, show wrap64 ((3 : Int) + 1) = 4 from by unfold wrap64; omega]
  rw [octroiref07_Same.l0, if_neg (by decide)]
theorem same_tags (k : Nat) : octroiref07_Same.f (k + 7) [(⟨#[116, 114, 101, 97, 116]⟩ : ByteArray), (⟨#[114, 97, 116, 101]⟩ : ByteArray), (⟨#[115, 117, 112, 112, 108, 121]⟩ : ByteArray), (⟨#[115, 97, 108, 101]⟩ : ByteArray), (⟨#[108, 97, 116, 101]⟩ : ByteArray), (⟨#[109, 105, 120, 101, 100]⟩ : ByteArray)] [(⟨#[116, 114, 101, 97, 116]⟩ : ByteArray), (⟨#[114, 97, 116, 101]⟩ : ByteArray), (⟨#[115, 117, 112, 112, 108, 121]⟩ : ByteArray), (⟨#[115, 97, 108, 101]⟩ : ByteArray), (⟨#[108, 97, 116, 101]⟩ : ByteArray), (⟨#[109, 105, 120, 101, 100]⟩ : ByteArray)] = some true := by
  unfold octroiref07_Same.f
  rw [if_pos rfl]
  rw [octroiref07_Same.l0, if_pos (by decide), if_pos (by decide), if_pos (by decide), if_pos rfl, show wrap64 ((0 : Int) + 1) = 1 from by unfold wrap64; omega]
  rw [octroiref07_Same.l0, if_pos (by decide), if_pos (by decide), if_pos (by decide), if_pos rfl, show wrap64 ((1 : Int) + 1) = 2 from by unfold wrap64; omega]
  rw [octroiref07_Same.l0, if_pos (by decide), if_pos (by decide), if_pos (by decide), if_pos rfl, show wrap64 ((2 : Int) + 1) = 3 from by unfold wrap64; omega]
  rw [octroiref07_Same.l0, if_pos (by decide), if_pos (by decide), if_pos (by decide), if_pos rfl, show wrap64 ((3 : Int) + 1) = 4 from by unfold wrap64; omega]
  rw [octroiref07_Same.l0, if_pos (by decide), if_pos (by decide), if_pos (by decide), if_pos rfl, show wrap64 ((4 : Int) + 1) = 5 from by unfold wrap64; omega]
  rw [octroiref07_Same.l0, if_pos (by decide), if_pos (by decide), if_pos (by decide), if_pos rfl, show wrap64 ((5 : Int) + 1) = 6 from by unfold wrap64; omega]
  rw [octroiref07_Same.l0, if_neg (by decide)]
theorem j1_end (k : Nat) : octroilaw25_EntryNames.j1 (k + 8) false = some true := by
  rw [octroilaw25_EntryNames.j1, if_neg (by simp), show entry_Fields.f = some [(⟨#[98, 97, 115, 101]⟩ : ByteArray), (⟨#[116, 97, 120]⟩ : ByteArray), (⟨#[111, 117, 116]⟩ : ByteArray), (⟨#[105, 110]⟩ : ByteArray)] from rfl, Option.bind_some]
  rw [show k + 7 = (k + 2) + 5 from rfl, same_fields, Option.bind_some, if_pos rfl, show entry_Tags.f = some [(⟨#[116, 114, 101, 97, 116]⟩ : ByteArray), (⟨#[114, 97, 116, 101]⟩ : ByteArray), (⟨#[115, 117, 112, 112, 108, 121]⟩ : ByteArray), (⟨#[115, 97, 108, 101]⟩ : ByteArray), (⟨#[108, 97, 116, 101]⟩ : ByteArray), (⟨#[109, 105, 120, 101, 100]⟩ : ByteArray)] from rfl, Option.bind_some]
  rw [show k + 2 + 5 = k + 7 from rfl, same_tags, Option.bind_some, if_pos rfl, lives]
  rfl
theorem j0_end (k : Nat) (a1 : ByteArray) (b : Bool) (a0_0 : Int) (a0_1 : Int) (a0_2 : Int) (a0_3 : Int) (a0_4 : Int) (a0_5 : Int) (a0_6 : ByteArray) (a0_7 : Bool) (a0_8 : Int) (a0_9 : Int) (a0_10 : Int) (a0_11 : ByteArray) (a0_12 : ByteArray) (a0_13 : Int) (a0_14 : Int) (a0_15 : Int) (a0_16 : Bool) : octroilaw25_EntryNames.j0 (k + 9) a1 b a0_0 a0_1 a0_2 a0_3 a0_4 a0_5 a0_6 a0_7 a0_8 a0_9 a0_10 a0_11 a0_12 a0_13 a0_14 a0_15 a0_16 = some true := by
  obtain ⟨v1, b1, h1, h2⟩ := field_same a0_0 a0_1 a0_2 a0_3 a0_4 a0_5 a0_6 a0_7 a0_8 a0_9 a0_10 a0_11 a0_12 a0_13 a0_14 a0_15 a0_16 a1
  obtain ⟨v2, b2, h3, h4⟩ := tag_same a0_0 a0_1 a0_2 a0_3 a0_4 a0_5 a0_6 a0_7 a0_8 a0_9 a0_10 a0_11 a0_12 a0_13 a0_14 a0_15 a0_16 a1
  obtain ⟨ow, hO, _⟩ := owed a0_0 a0_1 a0_2 a0_3 a0_4 a0_5 a0_6 a0_7 a0_8 a0_9 a0_10 a0_11 a0_12 a0_13 a0_14 a0_15 a0_16
  have hO2 := owed_same a0_0 a0_1 a0_2 a0_3 a0_4 a0_5 a0_6 a0_7 a0_8 a0_9 a0_10 a0_11 a0_12 a0_13 a0_14 a0_15 a0_16
  rw [hO] at hO2
  obtain ⟨lt, hL⟩ : ∃ lt, entry_Late.f a0_0 a0_1 a0_2 a0_3 a0_4 a0_5 a0_6 a0_7 a0_8 a0_9 a0_10 a0_11 a0_12 a0_13 a0_14 a0_15 a0_16 = some lt := ⟨_, rfl⟩
  have hL2 := late_same a0_0 a0_1 a0_2 a0_3 a0_4 a0_5 a0_6 a0_7 a0_8 a0_9 a0_10 a0_11 a0_12 a0_13 a0_14 a0_15 a0_16
  rw [hL] at hL2
  rw [octroilaw25_EntryNames.j0]
  cases b
  · rw [if_neg (by simp), h1, Option.bind_some, h2, Option.bind_some, h3, Option.bind_some, h4, Option.bind_some, if_pos rfl, if_neg (by simp), if_pos rfl, if_neg (by simp)]
    rw [hL, Option.bind_some, hL2, Option.bind_some, if_neg (by simp), hO, Option.bind_some, hO2, Option.bind_some]
    rw [show (ow != ow) = false by simp]
    exact j1_end k
  · rw [if_pos rfl, lives]
    rfl
theorem EntryNames : octroilaw25_EntryNames.Pure := by
  intro x0 a1 hg hs
  refine ⟨0 + 9, ?_⟩
  unfold octroilaw25_EntryNames.f octroilaw24_Light.f
  rw [Option.bind_some]
  split
  · exact j0_end 0 _ _ _ _ _ _ _ _ _ _ _ _ _ _ _ _ _ _ _
  · exact j0_end 0 _ _ _ _ _ _ _ _ _ _ _ _ _ _ _ _ _ _ _
end Go.Proofs.YtlciddgncngniaaDoor.Pure
