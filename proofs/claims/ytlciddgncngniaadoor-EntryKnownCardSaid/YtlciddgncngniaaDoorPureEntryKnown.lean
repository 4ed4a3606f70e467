/-
  The law EntryKnown, over lists and numbers alone.
-/
import Derived.Test.YtlciddgncngniaaDoorXEntryKnownxr
namespace Go.Proofs.YtlciddgncngniaaDoor.Pure
open Go.RowKit Go.Proofs.YtlciddgncngniaaDoor.XEntryKnown Go.Proofs.YtlciddgncngniaaDoorW.PrintWords Go.Proofs.YtlciddgncngniaaDoorW.PrintLast Go.Proofs.YtlciddgncngniaaDoor.Opens
set_option linter.unusedVariables false
set_option linter.unusedSimpArgs false
set_option linter.unnecessarySimpa false

theorem it1900 : Lib.itoa 1900 = [49, 57, 48, 48] := by simp [Lib.itoa, Lib.decDigits]
theorem it1000 : Lib.itoa 1000 = [49, 48, 48, 48] := by simp [Lib.itoa, Lib.decDigits]
theorem it190 : Lib.itoa 190 = [49, 57, 48] := by simp [Lib.itoa, Lib.decDigits]
theorem it0 : Lib.itoa 0 = [48] := by simp [Lib.itoa, Lib.decDigits]
theorem livesL : lineL ⟨#[104, 111, 109, 101]⟩ true false 1900 1000 190 190 0 = [104, 111, 109, 101, 32, 83, 32, 49, 57, 48, 48, 32, 49, 48, 48, 48, 32, 49, 57, 48, 32, 49, 57, 48, 32, 48] := by
  unfold lineL
  simp [EN.numsL, it1900, it1000, it190, it0]
theorem lives_line : entry_Line.f 0 0 0 0 0 0 (⟨#[97]⟩ : ByteArray) true 1 1 1900 (⟨#[68, 69]⟩ : ByteArray) (⟨#[]⟩ : ByteArray) 1000 190 0 false = some ⟨#[104, 111, 109, 101, 32, 83, 32, 49, 57, 48, 48, 32, 49, 48, 48, 48, 32, 49, 57, 48, 32, 49, 57, 48, 32, 48]⟩ := by
  have hN : treat_Name.f 1 = some ⟨#[104, 111, 109, 101]⟩ := rfl
  have hO : entry_Owed.f 0 0 0 0 0 0 (⟨#[97]⟩ : ByteArray) true 1 1 1900 (⟨#[68, 69]⟩ : ByteArray) (⟨#[]⟩ : ByteArray) 1000 190 0 false = some 190 := rfl
  have hT : entry_Late.f 0 0 0 0 0 0 (⟨#[97]⟩ : ByteArray) true 1 1 1900 (⟨#[68, 69]⟩ : ByteArray) (⟨#[]⟩ : ByteArray) 1000 190 0 false = some false := rfl
  unfold entry_Line.f
  rw [hN, Option.bind_some, hO, Option.bind_some, hT, Option.bind_some, if_pos (by decide), livesL]
theorem lives : octroilaw25_lives.f = some true := by
  unfold octroilaw25_lives.f octroilaw24_Sold.f
  rw [Option.bind_some]
  show (entry_Line.f 0 0 0 0 0 0 (⟨#[97]⟩ : ByteArray) true 1 1 1900 (⟨#[68, 69]⟩ : ByteArray) (⟨#[]⟩ : ByteArray) 1000 190 0 false).bind _ = _
  rw [lives_line, Option.bind_some, ByteArray.toList_eq]
  rfl
theorem owed (a0_0 : Int) (a0_1 : Int) (a0_2 : Int) (a0_3 : Int) (a0_4 : Int) (a0_5 : Int) (a0_6 : ByteArray) (a0_7 : Bool) (a0_8 : Int) (a0_9 : Int) (a0_10 : Int) (a0_11 : ByteArray) (a0_12 : ByteArray) (a0_13 : Int) (a0_14 : Int) (a0_15 : Int) (a0_16 : Bool) : ∃ ow, entry_Owed.f a0_0 a0_1 a0_2 a0_3 a0_4 a0_5 a0_6 a0_7 a0_8 a0_9 a0_10 a0_11 a0_12 a0_13 a0_14 a0_15 a0_16 = some ow ∧ (ow = a0_14 ∨ ow = 0) := by
  unfold entry_Owed.f treat_Output.f treat_Deducts.f
  repeat' split
  all_goals first | exact ⟨_, rfl, Or.inl rfl⟩ | exact ⟨_, rfl, Or.inr rfl⟩ | skip
  all_goals simp only [Option.bind_some]
  all_goals repeat' split
  all_goals first | exact ⟨_, rfl, Or.inl rfl⟩ | exact ⟨_, rfl, Or.inr rfl⟩ | skip
  all_goals simp only [Option.bind_some]
  all_goals repeat' split
  all_goals first | exact ⟨_, rfl, Or.inl rfl⟩ | exact ⟨_, rfl, Or.inr rfl⟩
theorem tl_base : (⟨#[98, 97, 115, 101]⟩ : ByteArray).toList = [98, 97, 115, 101] := by rw [ByteArray.toList_eq]
theorem tl_tax : (⟨#[116, 97, 120]⟩ : ByteArray).toList = [116, 97, 120] := by rw [ByteArray.toList_eq]
theorem tl_out : (⟨#[111, 117, 116]⟩ : ByteArray).toList = [111, 117, 116] := by rw [ByteArray.toList_eq]
theorem tl_in : (⟨#[105, 110]⟩ : ByteArray).toList = [105, 110] := by rw [ByteArray.toList_eq]
theorem tl_treat : (⟨#[116, 114, 101, 97, 116]⟩ : ByteArray).toList = [116, 114, 101, 97, 116] := by rw [ByteArray.toList_eq]
theorem tl_rate : (⟨#[114, 97, 116, 101]⟩ : ByteArray).toList = [114, 97, 116, 101] := by rw [ByteArray.toList_eq]
theorem tl_supply : (⟨#[115, 117, 112, 112, 108, 121]⟩ : ByteArray).toList = [115, 117, 112, 112, 108, 121] := by rw [ByteArray.toList_eq]
theorem tl_sale : (⟨#[115, 97, 108, 101]⟩ : ByteArray).toList = [115, 97, 108, 101] := by rw [ByteArray.toList_eq]
theorem tl_late : (⟨#[108, 97, 116, 101]⟩ : ByteArray).toList = [108, 97, 116, 101] := by rw [ByteArray.toList_eq]
theorem tl_mixed : (⟨#[109, 105, 120, 101, 100]⟩ : ByteArray).toList = [109, 105, 120, 101, 100] := by rw [ByteArray.toList_eq]
theorem fF_base (a0_0 : Int) (a0_1 : Int) (a0_2 : Int) (a0_3 : Int) (a0_4 : Int) (a0_5 : Int) (a0_6 : ByteArray) (a0_7 : Bool) (a0_8 : Int) (a0_9 : Int) (a0_10 : Int) (a0_11 : ByteArray) (a0_12 : ByteArray) (a0_13 : Int) (a0_14 : Int) (a0_15 : Int) (a0_16 : Bool) : ∃ v, entry_Field.f a0_0 a0_1 a0_2 a0_3 a0_4 a0_5 a0_6 a0_7 a0_8 a0_9 a0_10 a0_11 a0_12 a0_13 a0_14 a0_15 a0_16 (⟨#[98, 97, 115, 101]⟩ : ByteArray) = some (v, true) := by
  obtain ⟨ow, hO, _⟩ := owed a0_0 a0_1 a0_2 a0_3 a0_4 a0_5 a0_6 a0_7 a0_8 a0_9 a0_10 a0_11 a0_12 a0_13 a0_14 a0_15 a0_16
  unfold entry_Field.f
  rw [tl_base]
  first | exact ⟨_, rfl⟩ | (rw [hO]; exact ⟨_, rfl⟩)
theorem tF_base (a0_0 : Int) (a0_1 : Int) (a0_2 : Int) (a0_3 : Int) (a0_4 : Int) (a0_5 : Int) (a0_6 : ByteArray) (a0_7 : Bool) (a0_8 : Int) (a0_9 : Int) (a0_10 : Int) (a0_11 : ByteArray) (a0_12 : ByteArray) (a0_13 : Int) (a0_14 : Int) (a0_15 : Int) (a0_16 : Bool) : entry_Tag.f a0_0 a0_1 a0_2 a0_3 a0_4 a0_5 a0_6 a0_7 a0_8 a0_9 a0_10 a0_11 a0_12 a0_13 a0_14 a0_15 a0_16 (⟨#[98, 97, 115, 101]⟩ : ByteArray) = some (0, false) := by
  unfold entry_Tag.f
  rw [tl_base]
  rfl
theorem fF_tax (a0_0 : Int) (a0_1 : Int) (a0_2 : Int) (a0_3 : Int) (a0_4 : Int) (a0_5 : Int) (a0_6 : ByteArray) (a0_7 : Bool) (a0_8 : Int) (a0_9 : Int) (a0_10 : Int) (a0_11 : ByteArray) (a0_12 : ByteArray) (a0_13 : Int) (a0_14 : Int) (a0_15 : Int) (a0_16 : Bool) : ∃ v, entry_Field.f a0_0 a0_1 a0_2 a0_3 a0_4 a0_5 a0_6 a0_7 a0_8 a0_9 a0_10 a0_11 a0_12 a0_13 a0_14 a0_15 a0_16 (⟨#[116, 97, 120]⟩ : ByteArray) = some (v, true) := by
  obtain ⟨ow, hO, _⟩ := owed a0_0 a0_1 a0_2 a0_3 a0_4 a0_5 a0_6 a0_7 a0_8 a0_9 a0_10 a0_11 a0_12 a0_13 a0_14 a0_15 a0_16
  unfold entry_Field.f
  rw [tl_tax]
  first | exact ⟨_, rfl⟩ | (rw [hO]; exact ⟨_, rfl⟩)
theorem tF_tax (a0_0 : Int) (a0_1 : Int) (a0_2 : Int) (a0_3 : Int) (a0_4 : Int) (a0_5 : Int) (a0_6 : ByteArray) (a0_7 : Bool) (a0_8 : Int) (a0_9 : Int) (a0_10 : Int) (a0_11 : ByteArray) (a0_12 : ByteArray) (a0_13 : Int) (a0_14 : Int) (a0_15 : Int) (a0_16 : Bool) : entry_Tag.f a0_0 a0_1 a0_2 a0_3 a0_4 a0_5 a0_6 a0_7 a0_8 a0_9 a0_10 a0_11 a0_12 a0_13 a0_14 a0_15 a0_16 (⟨#[116, 97, 120]⟩ : ByteArray) = some (0, false) := by
  unfold entry_Tag.f
  rw [tl_tax]
  rfl
theorem fF_out (a0_0 : Int) (a0_1 : Int) (a0_2 : Int) (a0_3 : Int) (a0_4 : Int) (a0_5 : Int) (a0_6 : ByteArray) (a0_7 : Bool) (a0_8 : Int) (a0_9 : Int) (a0_10 : Int) (a0_11 : ByteArray) (a0_12 : ByteArray) (a0_13 : Int) (a0_14 : Int) (a0_15 : Int) (a0_16 : Bool) : ∃ v, entry_Field.f a0_0 a0_1 a0_2 a0_3 a0_4 a0_5 a0_6 a0_7 a0_8 a0_9 a0_10 a0_11 a0_12 a0_13 a0_14 a0_15 a0_16 (⟨#[111, 117, 116]⟩ : ByteArray) = some (v, true) := by
  obtain ⟨ow, hO, _⟩ := owed a0_0 a0_1 a0_2 a0_3 a0_4 a0_5 a0_6 a0_7 a0_8 a0_9 a0_10 a0_11 a0_12 a0_13 a0_14 a0_15 a0_16
  unfold entry_Field.f
  rw [tl_out]
  first | exact ⟨_, rfl⟩ | (rw [hO]; exact ⟨_, rfl⟩)
theorem tF_out (a0_0 : Int) (a0_1 : Int) (a0_2 : Int) (a0_3 : Int) (a0_4 : Int) (a0_5 : Int) (a0_6 : ByteArray) (a0_7 : Bool) (a0_8 : Int) (a0_9 : Int) (a0_10 : Int) (a0_11 : ByteArray) (a0_12 : ByteArray) (a0_13 : Int) (a0_14 : Int) (a0_15 : Int) (a0_16 : Bool) : entry_Tag.f a0_0 a0_1 a0_2 a0_3 a0_4 a0_5 a0_6 a0_7 a0_8 a0_9 a0_10 a0_11 a0_12 a0_13 a0_14 a0_15 a0_16 (⟨#[111, 117, 116]⟩ : ByteArray) = some (0, false) := by
  unfold entry_Tag.f
  rw [tl_out]
  rfl
theorem fF_in (a0_0 : Int) (a0_1 : Int) (a0_2 : Int) (a0_3 : Int) (a0_4 : Int) (a0_5 : Int) (a0_6 : ByteArray) (a0_7 : Bool) (a0_8 : Int) (a0_9 : Int) (a0_10 : Int) (a0_11 : ByteArray) (a0_12 : ByteArray) (a0_13 : Int) (a0_14 : Int) (a0_15 : Int) (a0_16 : Bool) : ∃ v, entry_Field.f a0_0 a0_1 a0_2 a0_3 a0_4 a0_5 a0_6 a0_7 a0_8 a0_9 a0_10 a0_11 a0_12 a0_13 a0_14 a0_15 a0_16 (⟨#[105, 110]⟩ : ByteArray) = some (v, true) := by
  obtain ⟨ow, hO, _⟩ := owed a0_0 a0_1 a0_2 a0_3 a0_4 a0_5 a0_6 a0_7 a0_8 a0_9 a0_10 a0_11 a0_12 a0_13 a0_14 a0_15 a0_16
  unfold entry_Field.f
  rw [tl_in]
  first | exact ⟨_, rfl⟩ | (rw [hO]; exact ⟨_, rfl⟩)
theorem tF_in (a0_0 : Int) (a0_1 : Int) (a0_2 : Int) (a0_3 : Int) (a0_4 : Int) (a0_5 : Int) (a0_6 : ByteArray) (a0_7 : Bool) (a0_8 : Int) (a0_9 : Int) (a0_10 : Int) (a0_11 : ByteArray) (a0_12 : ByteArray) (a0_13 : Int) (a0_14 : Int) (a0_15 : Int) (a0_16 : Bool) : entry_Tag.f a0_0 a0_1 a0_2 a0_3 a0_4 a0_5 a0_6 a0_7 a0_8 a0_9 a0_10 a0_11 a0_12 a0_13 a0_14 a0_15 a0_16 (⟨#[105, 110]⟩ : ByteArray) = some (0, false) := by
  unfold entry_Tag.f
  rw [tl_in]
  rfl
theorem fT_treat (a0_0 : Int) (a0_1 : Int) (a0_2 : Int) (a0_3 : Int) (a0_4 : Int) (a0_5 : Int) (a0_6 : ByteArray) (a0_7 : Bool) (a0_8 : Int) (a0_9 : Int) (a0_10 : Int) (a0_11 : ByteArray) (a0_12 : ByteArray) (a0_13 : Int) (a0_14 : Int) (a0_15 : Int) (a0_16 : Bool) : entry_Field.f a0_0 a0_1 a0_2 a0_3 a0_4 a0_5 a0_6 a0_7 a0_8 a0_9 a0_10 a0_11 a0_12 a0_13 a0_14 a0_15 a0_16 (⟨#[116, 114, 101, 97, 116]⟩ : ByteArray) = some (0, false) := by
  unfold entry_Field.f
  rw [tl_treat]
  rfl
theorem tT_treat (a0_0 : Int) (a0_1 : Int) (a0_2 : Int) (a0_3 : Int) (a0_4 : Int) (a0_5 : Int) (a0_6 : ByteArray) (a0_7 : Bool) (a0_8 : Int) (a0_9 : Int) (a0_10 : Int) (a0_11 : ByteArray) (a0_12 : ByteArray) (a0_13 : Int) (a0_14 : Int) (a0_15 : Int) (a0_16 : Bool) : ∃ v, entry_Tag.f a0_0 a0_1 a0_2 a0_3 a0_4 a0_5 a0_6 a0_7 a0_8 a0_9 a0_10 a0_11 a0_12 a0_13 a0_14 a0_15 a0_16 (⟨#[116, 114, 101, 97, 116]⟩ : ByteArray) = some (v, true) := by
  unfold entry_Tag.f
  rw [tl_treat]
  exact ⟨_, rfl⟩
theorem fT_rate (a0_0 : Int) (a0_1 : Int) (a0_2 : Int) (a0_3 : Int) (a0_4 : Int) (a0_5 : Int) (a0_6 : ByteArray) (a0_7 : Bool) (a0_8 : Int) (a0_9 : Int) (a0_10 : Int) (a0_11 : ByteArray) (a0_12 : ByteArray) (a0_13 : Int) (a0_14 : Int) (a0_15 : Int) (a0_16 : Bool) : entry_Field.f a0_0 a0_1 a0_2 a0_3 a0_4 a0_5 a0_6 a0_7 a0_8 a0_9 a0_10 a0_11 a0_12 a0_13 a0_14 a0_15 a0_16 (⟨#[114, 97, 116, 101]⟩ : ByteArray) = some (0, false) := by
  unfold entry_Field.f
  rw [tl_rate]
  rfl
theorem tT_rate (a0_0 : Int) (a0_1 : Int) (a0_2 : Int) (a0_3 : Int) (a0_4 : Int) (a0_5 : Int) (a0_6 : ByteArray) (a0_7 : Bool) (a0_8 : Int) (a0_9 : Int) (a0_10 : Int) (a0_11 : ByteArray) (a0_12 : ByteArray) (a0_13 : Int) (a0_14 : Int) (a0_15 : Int) (a0_16 : Bool) : ∃ v, entry_Tag.f a0_0 a0_1 a0_2 a0_3 a0_4 a0_5 a0_6 a0_7 a0_8 a0_9 a0_10 a0_11 a0_12 a0_13 a0_14 a0_15 a0_16 (⟨#[114, 97, 116, 101]⟩ : ByteArray) = some (v, true) := by
  unfold entry_Tag.f
  rw [tl_rate]
  exact ⟨_, rfl⟩
theorem fT_supply (a0_0 : Int) (a0_1 : Int) (a0_2 : Int) (a0_3 : Int) (a0_4 : Int) (a0_5 : Int) (a0_6 : ByteArray) (a0_7 : Bool) (a0_8 : Int) (a0_9 : Int) (a0_10 : Int) (a0_11 : ByteArray) (a0_12 : ByteArray) (a0_13 : Int) (a0_14 : Int) (a0_15 : Int) (a0_16 : Bool) : entry_Field.f a0_0 a0_1 a0_2 a0_3 a0_4 a0_5 a0_6 a0_7 a0_8 a0_9 a0_10 a0_11 a0_12 a0_13 a0_14 a0_15 a0_16 (⟨#[115, 117, 112, 112, 108, 121]⟩ : ByteArray) = some (0, false) := by
  unfold entry_Field.f
  rw [tl_supply]
  rfl
theorem tT_supply (a0_0 : Int) (a0_1 : Int) (a0_2 : Int) (a0_3 : Int) (a0_4 : Int) (a0_5 : Int) (a0_6 : ByteArray) (a0_7 : Bool) (a0_8 : Int) (a0_9 : Int) (a0_10 : Int) (a0_11 : ByteArray) (a0_12 : ByteArray) (a0_13 : Int) (a0_14 : Int) (a0_15 : Int) (a0_16 : Bool) : ∃ v, entry_Tag.f a0_0 a0_1 a0_2 a0_3 a0_4 a0_5 a0_6 a0_7 a0_8 a0_9 a0_10 a0_11 a0_12 a0_13 a0_14 a0_15 a0_16 (⟨#[115, 117, 112, 112, 108, 121]⟩ : ByteArray) = some (v, true) := by
  unfold entry_Tag.f
  rw [tl_supply]
  exact ⟨_, rfl⟩
theorem fT_sale (a0_0 : Int) (a0_1 : Int) (a0_2 : Int) (a0_3 : Int) (a0_4 : Int) (a0_5 : Int) (a0_6 : ByteArray) (a0_7 : Bool) (a0_8 : Int) (a0_9 : Int) (a0_10 : Int) (a0_11 : ByteArray) (a0_12 : ByteArray) (a0_13 : Int) (a0_14 : Int) (a0_15 : Int) (a0_16 : Bool) : entry_Field.f a0_0 a0_1 a0_2 a0_3 a0_4 a0_5 a0_6 a0_7 a0_8 a0_9 a0_10 a0_11 a0_12 a0_13 a0_14 a0_15 a0_16 (⟨#[115, 97, 108, 101]⟩ : ByteArray) = some (0, false) := by
  unfold entry_Field.f
  rw [tl_sale]
  rfl
theorem tT_sale (a0_0 : Int) (a0_1 : Int) (a0_2 : Int) (a0_3 : Int) (a0_4 : Int) (a0_5 : Int) (a0_6 : ByteArray) (a0_7 : Bool) (a0_8 : Int) (a0_9 : Int) (a0_10 : Int) (a0_11 : ByteArray) (a0_12 : ByteArray) (a0_13 : Int) (a0_14 : Int) (a0_15 : Int) (a0_16 : Bool) : ∃ v, entry_Tag.f a0_0 a0_1 a0_2 a0_3 a0_4 a0_5 a0_6 a0_7 a0_8 a0_9 a0_10 a0_11 a0_12 a0_13 a0_14 a0_15 a0_16 (⟨#[115, 97, 108, 101]⟩ : ByteArray) = some (v, true) := by
  unfold entry_Tag.f
  rw [tl_sale]
  exact ⟨_, rfl⟩
theorem fT_late (a0_0 : Int) (a0_1 : Int) (a0_2 : Int) (a0_3 : Int) (a0_4 : Int) (a0_5 : Int) (a0_6 : ByteArray) (a0_7 : Bool) (a0_8 : Int) (a0_9 : Int) (a0_10 : Int) (a0_11 : ByteArray) (a0_12 : ByteArray) (a0_13 : Int) (a0_14 : Int) (a0_15 : Int) (a0_16 : Bool) : entry_Field.f a0_0 a0_1 a0_2 a0_3 a0_4 a0_5 a0_6 a0_7 a0_8 a0_9 a0_10 a0_11 a0_12 a0_13 a0_14 a0_15 a0_16 (⟨#[108, 97, 116, 101]⟩ : ByteArray) = some (0, false) := by
  unfold entry_Field.f
  rw [tl_late]
  rfl
theorem tT_late (a0_0 : Int) (a0_1 : Int) (a0_2 : Int) (a0_3 : Int) (a0_4 : Int) (a0_5 : Int) (a0_6 : ByteArray) (a0_7 : Bool) (a0_8 : Int) (a0_9 : Int) (a0_10 : Int) (a0_11 : ByteArray) (a0_12 : ByteArray) (a0_13 : Int) (a0_14 : Int) (a0_15 : Int) (a0_16 : Bool) : ∃ v, entry_Tag.f a0_0 a0_1 a0_2 a0_3 a0_4 a0_5 a0_6 a0_7 a0_8 a0_9 a0_10 a0_11 a0_12 a0_13 a0_14 a0_15 a0_16 (⟨#[108, 97, 116, 101]⟩ : ByteArray) = some (v, true) := by
  unfold entry_Tag.f
  rw [tl_late]
  exact ⟨_, rfl⟩
theorem fT_mixed (a0_0 : Int) (a0_1 : Int) (a0_2 : Int) (a0_3 : Int) (a0_4 : Int) (a0_5 : Int) (a0_6 : ByteArray) (a0_7 : Bool) (a0_8 : Int) (a0_9 : Int) (a0_10 : Int) (a0_11 : ByteArray) (a0_12 : ByteArray) (a0_13 : Int) (a0_14 : Int) (a0_15 : Int) (a0_16 : Bool) : entry_Field.f a0_0 a0_1 a0_2 a0_3 a0_4 a0_5 a0_6 a0_7 a0_8 a0_9 a0_10 a0_11 a0_12 a0_13 a0_14 a0_15 a0_16 (⟨#[109, 105, 120, 101, 100]⟩ : ByteArray) = some (0, false) := by
  unfold entry_Field.f
  rw [tl_mixed]
  rfl
theorem tT_mixed (a0_0 : Int) (a0_1 : Int) (a0_2 : Int) (a0_3 : Int) (a0_4 : Int) (a0_5 : Int) (a0_6 : ByteArray) (a0_7 : Bool) (a0_8 : Int) (a0_9 : Int) (a0_10 : Int) (a0_11 : ByteArray) (a0_12 : ByteArray) (a0_13 : Int) (a0_14 : Int) (a0_15 : Int) (a0_16 : Bool) : ∃ v, entry_Tag.f a0_0 a0_1 a0_2 a0_3 a0_4 a0_5 a0_6 a0_7 a0_8 a0_9 a0_10 a0_11 a0_12 a0_13 a0_14 a0_15 a0_16 (⟨#[109, 105, 120, 101, 100]⟩ : ByteArray) = some (v, true) := by
  unfold entry_Tag.f
  rw [tl_mixed]
  exact ⟨_, rfl⟩
theorem l0_0 (k : Nat) (a0_0 : Int) (a0_1 : Int) (a0_2 : Int) (a0_3 : Int) (a0_4 : Int) (a0_5 : Int) (a0_6 : ByteArray) (a0_7 : Bool) (a0_8 : Int) (a0_9 : Int) (a0_10 : Int) (a0_11 : ByteArray) (a0_12 : ByteArray) (a0_13 : Int) (a0_14 : Int) (a0_15 : Int) (a0_16 : Bool) : octroilaw25_EntryKnown.l0 (k + 1) [(⟨#[98, 97, 115, 101]⟩ : ByteArray), (⟨#[116, 97, 120]⟩ : ByteArray), (⟨#[111, 117, 116]⟩ : ByteArray), (⟨#[105, 110]⟩ : ByteArray)] 4 0 a0_0 a0_1 a0_2 a0_3 a0_4 a0_5 a0_6 a0_7 a0_8 a0_9 a0_10 a0_11 a0_12 a0_13 a0_14 a0_15 a0_16 = octroilaw25_EntryKnown.l0 k [(⟨#[98, 97, 115, 101]⟩ : ByteArray), (⟨#[116, 97, 120]⟩ : ByteArray), (⟨#[111, 117, 116]⟩ : ByteArray), (⟨#[105, 110]⟩ : ByteArray)] 4 1 a0_0 a0_1 a0_2 a0_3 a0_4 a0_5 a0_6 a0_7 a0_8 a0_9 a0_10 a0_11 a0_12 a0_13 a0_14 a0_15 a0_16 := by
  obtain ⟨v, hv⟩ := fF_base a0_0 a0_1 a0_2 a0_3 a0_4 a0_5 a0_6 a0_7 a0_8 a0_9 a0_10 a0_11 a0_12 a0_13 a0_14 a0_15 a0_16
  rw [octroilaw25_EntryKnown.l0, if_pos (by decide), if_pos (by decide), if_pos (by decide), show rdOf ByteArray.empty ([(⟨#[98, 97, 115, 101]⟩ : ByteArray), (⟨#[116, 97, 120]⟩ : ByteArray), (⟨#[111, 117, 116]⟩ : ByteArray), (⟨#[105, 110]⟩ : ByteArray)] : List ByteArray) (0 : Int) = (⟨#[98, 97, 115, 101]⟩ : ByteArray) from rfl, hv, Option.bind_some, tF_base, Option.bind_some, if_pos rfl, if_neg (by simp), show wrap64 ((0 : Int) + 1) = 1 from by unfold wrap64; omega]
theorem l0_1 (k : Nat) (a0_0 : Int) (a0_1 : Int) (a0_2 : Int) (a0_3 : Int) (a0_4 : Int) (a0_5 : Int) (a0_6 : ByteArray) (a0_7 : Bool) (a0_8 : Int) (a0_9 : Int) (a0_10 : Int) (a0_11 : ByteArray) (a0_12 : ByteArray) (a0_13 : Int) (a0_14 : Int) (a0_15 : Int) (a0_16 : Bool) : octroilaw25_EntryKnown.l0 (k + 1) [(⟨#[98, 97, 115, 101]⟩ : ByteArray), (⟨#[116, 97, 120]⟩ : ByteArray), (⟨#[111, 117, 116]⟩ : ByteArray), (⟨#[105, 110]⟩ : ByteArray)] 4 1 a0_0 a0_1 a0_2 a0_3 a0_4 a0_5 a0_6 a0_7 a0_8 a0_9 a0_10 a0_11 a0_12 a0_13 a0_14 a0_15 a0_16 = octroilaw25_EntryKnown.l0 k [(⟨#[98, 97, 115, 101]⟩ : ByteArray), (⟨#[116, 97, 120]⟩ : ByteArray), (⟨#[111, 117, 116]⟩ : ByteArray), (⟨#[105, 110]⟩ : ByteArray)] 4 2 a0_0 a0_1 a0_2 a0_3 a0_4 a0_5 a0_6 a0_7 a0_8 a0_9 a0_10 a0_11 a0_12 a0_13 a0_14 a0_15 a0_16 := by
  obtain ⟨v, hv⟩ := fF_tax a0_0 a0_1 a0_2 a0_3 a0_4 a0_5 a0_6 a0_7 a0_8 a0_9 a0_10 a0_11 a0_12 a0_13 a0_14 a0_15 a0_16
  rw [octroilaw25_EntryKnown.l0, if_pos (by decide), if_pos (by decide), if_pos (by decide), show rdOf ByteArray.empty ([(⟨#[98, 97, 115, 101]⟩ : ByteArray), (⟨#[116, 97, 120]⟩ : ByteArray), (⟨#[111, 117, 116]⟩ : ByteArray), (⟨#[105, 110]⟩ : ByteArray)] : List ByteArray) (1 : Int) = (⟨#[116, 97, 120]⟩ : ByteArray) from rfl, hv, Option.bind_some, tF_tax, Option.bind_some, if_pos rfl, if_neg (by simp), show wrap64 ((1 : Int) + 1) = 2 from by unfold wrap64; omega]
theorem l0_2 (k : Nat) (a0_0 : Int) (a0_1 : Int) (a0_2 : Int) (a0_3 : Int) (a0_4 : Int) (a0_5 : Int) (a0_6 : ByteArray) (a0_7 : Bool) (a0_8 : Int) (a0_9 : Int) (a0_10 : Int) (a0_11 : ByteArray) (a0_12 : ByteArray) (a0_13 : Int) (a0_14 : Int) (a0_15 : Int) (a0_16 : Bool) : octroilaw25_EntryKnown.l0 (k + 1) [(⟨#[98, 97, 115, 101]⟩ : ByteArray), (⟨#[116, 97, 120]⟩ : ByteArray), (⟨#[111, 117, 116]⟩ : ByteArray), (⟨#[105, 110]⟩ : ByteArray)] 4 2 a0_0 a0_1 a0_2 a0_3 a0_4 a0_5 a0_6 a0_7 a0_8 a0_9 a0_10 a0_11 a0_12 a0_13 a0_14 a0_15 a0_16 = octroilaw25_EntryKnown.l0 k [(⟨#[98, 97, 115, 101]⟩ : ByteArray), (⟨#[116, 97, 120]⟩ : ByteArray), (⟨#[111, 117, 116]⟩ : ByteArray), (⟨#[105, 110]⟩ : ByteArray)] 4 3 a0_0 a0_1 a0_2 a0_3 a0_4 a0_5 a0_6 a0_7 a0_8 a0_9 a0_10 a0_11 a0_12 a0_13 a0_14 a0_15 a0_16 := by
  obtain ⟨v, hv⟩ := fF_out a0_0 a0_1 a0_2 a0_3 a0_4 a0_5 a0_6 a0_7 a0_8 a0_9 a0_10 a0_11 a0_12 a0_13 a0_14 a0_15 a0_16
  rw [octroilaw25_EntryKnown.l0, if_pos (by decide), if_pos (by decide), if_pos (by decide), show rdOf ByteArray.empty ([(⟨#[98, 97, 115, 101]⟩ : ByteArray), (⟨#[116, 97, 120]⟩ : ByteArray), (⟨#[111, 117, 116]⟩ : ByteArray), (⟨#[105, 110]⟩ : ByteArray)] : List ByteArray) (2 : Int) = (⟨#[111, 117, 116]⟩ : ByteArray) from rfl, hv, Option.bind_some, tF_out, Option.bind_some, if_pos rfl, if_neg (by simp), show wrap64 ((2 : Int) + 1) = 3 from by unfold wrap64; omega]
theorem l0_3 (k : Nat) (a0_0 : Int) (a0_1 : Int) (a0_2 : Int) (a0_3 : Int) (a0_4 : Int) (a0_5 : Int) (a0_6 : ByteArray) (a0_7 : Bool) (a0_8 : Int) (a0_9 : Int) (a0_10 : Int) (a0_11 : ByteArray) (a0_12 : ByteArray) (a0_13 : Int) (a0_14 : Int) (a0_15 : Int) (a0_16 : Bool) : octroilaw25_EntryKnown.l0 (k + 1) [(⟨#[98, 97, 115, 101]⟩ : ByteArray), (⟨#[116, 97, 120]⟩ : ByteArray), (⟨#[111, 117, 116]⟩ : ByteArray), (⟨#[105, 110]⟩ : ByteArray)] 4 3 a0_0 a0_1 a0_2 a0_3 a0_4 a0_5 a0_6 a0_7 a0_8 a0_9 a0_10 a0_11 a0_12 a0_13 a0_14 a0_15 a0_16 = octroilaw25_EntryKnown.l0 k [(⟨#[98, 97, 115, 101]⟩ : ByteArray), (⟨#[116, 97, 120]⟩ : ByteArray), (⟨#[111, 117, 116]⟩ : ByteArray), (⟨#[105, 110]⟩ : ByteArray)] 4 4 a0_0 a0_1 a0_2 a0_3 a0_4 a0_5 a0_6 a0_7 a0_8 a0_9 a0_10 a0_11 a0_12 a0_13 a0_14 a0_15 a0_16 := by
  obtain ⟨v, hv⟩ := fF_in a0_0 a0_1 a0_2 a0_3 a0_4 a0_5 a0_6 a0_7 a0_8 a0_9 a0_10 a0_11 a0_12 a0_13 a0_14 a0_15 a0_16
  rw [octroilaw25_EntryKnown.l0, if_pos (by decide), if_pos (by decide), if_pos (by decide), show rdOf ByteArray.empty ([(⟨#[98, 97, 115, 101]⟩ : ByteArray), (⟨#[116, 97, 120]⟩ : ByteArray), (⟨#[111, 117, 116]⟩ : ByteArray), (⟨#[105, 110]⟩ : ByteArray)] : List ByteArray) (3 : Int) = (⟨#[105, 110]⟩ : ByteArray) from rfl, hv, Option.bind_some, tF_in, Option.bind_some, if_pos rfl, if_neg (by simp), show wrap64 ((3 : Int) + 1) = 4 from by unfold wrap64; omega]
theorem l1_0 (k : Nat) (a0_0 : Int) (a0_1 : Int) (a0_2 : Int) (a0_3 : Int) (a0_4 : Int) (a0_5 : Int) (a0_6 : ByteArray) (a0_7 : Bool) (a0_8 : Int) (a0_9 : Int) (a0_10 : Int) (a0_11 : ByteArray) (a0_12 : ByteArray) (a0_13 : Int) (a0_14 : Int) (a0_15 : Int) (a0_16 : Bool) : octroilaw25_EntryKnown.l1 (k + 1) [(⟨#[116, 114, 101, 97, 116]⟩ : ByteArray), (⟨#[114, 97, 116, 101]⟩ : ByteArray), (⟨#[115, 117, 112, 112, 108, 121]⟩ : ByteArray), (⟨#[115, 97, 108, 101]⟩ : ByteArray), (⟨#[108, 97, 116, 101]⟩ : ByteArray), (⟨#[109, 105, 120, 101, 100]⟩ : ByteArray)] 6 0 a0_0 a0_1 a0_2 a0_3 a0_4 a0_5 a0_6 a0_7 a0_8 a0_9 a0_10 a0_11 a0_12 a0_13 a0_14 a0_15 a0_16 = octroilaw25_EntryKnown.l1 k [(⟨#[116, 114, 101, 97, 116]⟩ : ByteArray), (⟨#[114, 97, 116, 101]⟩ : ByteArray), (⟨#[115, 117, 112, 112, 108, 121]⟩ : ByteArray), (⟨#[115, 97, 108, 101]⟩ : ByteArray), (⟨#[108, 97, 116, 101]⟩ : ByteArray), (⟨#[109, 105, 120, 101, 100]⟩ : ByteArray)] 6 1 a0_0 a0_1 a0_2 a0_3 a0_4 a0_5 a0_6 a0_7 a0_8 a0_9 a0_10 a0_11 a0_12 a0_13 a0_14 a0_15 a0_16 := by
  obtain ⟨v, hv⟩ := tT_treat a0_0 a0_1 a0_2 a0_3 a0_4 a0_5 a0_6 a0_7 a0_8 a0_9 a0_10 a0_11 a0_12 a0_13 a0_14 a0_15 a0_16
  rw [octroilaw25_EntryKnown.l1, if_pos (by decide), if_pos (by decide), if_pos (by decide), show rdOf ByteArray.empty ([(⟨#[116, 114, 101, 97, 116]⟩ : ByteArray), (⟨#[114, 97, 116, 101]⟩ : ByteArray), (⟨#[115, 117, 112, 112, 108, 121]⟩ : ByteArray), (⟨#[115, 97, 108, 101]⟩ : ByteArray), (⟨#[108, 97, 116, 101]⟩ : ByteArray), (⟨#[109, 105, 120, 101, 100]⟩ : ByteArray)] : List ByteArray) (0 : Int) = (⟨#[116, 114, 101, 97, 116]⟩ : ByteArray) from rfl, hv, Option.bind_some, fT_treat, Option.bind_some, if_pos rfl, if_neg (by simp), show wrap64 ((0 : Int) + 1) = 1 from by unfold wrap64; omega]
theorem l1_1 (k : Nat) (a0_0 : Int) (a0_1 : Int) (a0_2 : Int) (a0_3 : Int) (a0_4 : Int) (a0_5 : Int) (a0_6 : ByteArray) (a0_7 : Bool) (a0_8 : Int) (a0_9 : Int) (a0_10 : Int) (a0_11 : ByteArray) (a0_12 : ByteArray) (a0_13 : Int) (a0_14 : Int) (a0_15 : Int) (a0_16 : Bool) : octroilaw25_EntryKnown.l1 (k + 1) [(⟨#[116, 114, 101, 97, 116]⟩ : ByteArray), (⟨#[114, 97, 116, 101]⟩ : ByteArray), (⟨#[115, 117, 112, 112, 108, 121]⟩ : ByteArray), (⟨#[115, 97, 108, 101]⟩ : ByteArray), (⟨#[108, 97, 116, 101]⟩ : ByteArray), (⟨#[109, 105, 120, 101, 100]⟩ : ByteArray)] 6 1 a0_0 a0_1 a0_2 a0_3 a0_4 a0_5 a0_6 a0_7 a0_8 a0_9 a0_10 a0_11 a0_12 a0_13 a0_14 a0_15 a0_16 = octroilaw25_EntryKnown.l1 k [(⟨#[116, 114, 101, 97, 116]⟩ : ByteArray), (⟨#[114, 97, 116, 101]⟩ : ByteArray), (⟨#[115, 117, 112, 112, 108, 121]⟩ : ByteArray), (⟨#[115, 97, 108, 101]⟩ : ByteArray), (⟨#[108, 97, 116, 101]⟩ : ByteArray), (⟨#[109, 105, 120, 101, 100]⟩ : ByteArray)] 6 2 a0_0 a0_1 a0_2 a0_3 a0_4 a0_5 a0_6 a0_7 a0_8 a0_9 a0_10 a0_11 a0_12 a0_13 a0_14 a0_15 a0_16 := by
  obtain ⟨v, hv⟩ := tT_rate a0_0 a0_1 a0_2 a0_3 a0_4 a0_5 a0_6 a0_7 a0_8 a0_9 a0_10 a0_11 a0_12 a0_13 a0_14 a0_15 a0_16
  rw [octroilaw25_EntryKnown.l1, if_pos (by decide), if_pos (by decide), if_pos (by decide), show rdOf ByteArray.empty ([(⟨#[116, 114, 101, 97, 116]⟩ : ByteArray), (⟨#[114, 97, 116, 101]⟩ : ByteArray), (⟨#[115, 117, 112, 112, 108, 121]⟩ : ByteArray), (⟨#[115, 97, 108, 101]⟩ : ByteArray), (⟨#[108, 97, 116, 101]⟩ : ByteArray), (⟨#[109, 105, 120, 101, 100]⟩ : ByteArray)] : List ByteArray) (1 : Int) = (⟨#[114, 97, 116, 101]⟩ : ByteArray) from rfl, hv, Option.bind_some, fT_rate, Option.bind_some, if_pos rfl, if_neg (by simp), show wrap64 ((1 : Int) + 1) = 2 from by unfold wrap64; omega]
theorem l1_2 (k : Nat) (a0_0 : Int) (a0_1 : Int) (a0_2 : Int) (a0_3 : Int) (a0_4 : Int) (a0_5 : Int) (a0_6 : ByteArray) (a0_7 : Bool) (a0_8 : Int) (a0_9 : Int) (a0_10 : Int) (a0_11 : ByteArray) (a0_12 : ByteArray) (a0_13 : Int) (a0_14 : Int) (a0_15 : Int) (a0_16 : Bool) : octroilaw25_EntryKnown.l1 (k + 1) [(⟨#[116, 114, 101, 97, 116]⟩ : ByteArray), (⟨#[114, 97, 116, 101]⟩ : ByteArray), (⟨#[115, 117, 112, 112, 108, 121]⟩ : ByteArray), (⟨#[115, 97, 108, 101]⟩ : ByteArray), (⟨#[108, 97, 116, 101]⟩ : ByteArray), (⟨#[109, 105, 120, 101, 100]⟩ : ByteArray)] 6 2 a0_0 a0_1 a0_2 a0_3 a0_4 a0_5 a0_6 a0_7 a0_8 a0_9 a0_10 a0_11 a0_12 a0_13 a0_14 a0_15 a0_16 = octroilaw25_EntryKnown.l1 k [(⟨#[116, 114, 101, 97, 116]⟩ : ByteArray), (⟨#[114, 97, 116, 101]⟩ : ByteArray), (⟨#[115, 117, 112, 112, 108, 121]⟩ : ByteArray), (⟨#[115, 97, 108, 101]⟩ : ByteArray), (⟨#[108, 97, 116, 101]⟩ : ByteArray), (⟨#[109, 105, 120, 101, 100]⟩ : ByteArray)] 6 3 a0_0 a0_1 a0_2 a0_3 a0_4 a0_5 a0_6 a0_7 a0_8 a0_9 a0_10 a0_11 a0_12 a0_13 a0_14 a0_15 a0_16 := by
  obtain ⟨v, hv⟩ := tT_supply a0_0 a0_1 a0_2 a0_3 a0_4 a0_5 a0_6 a0_7 a0_8 a0_9 a0_10 a0_11 a0_12 a0_13 a0_14 a0_15 a0_16
  rw [octroilaw25_EntryKnown.l1, if_pos (by decide), if_pos (by decide), if_pos (by decide), show rdOf ByteArray.empty ([(⟨#[116, 114, 101, 97, 116]⟩ : ByteArray), (⟨#[114, 97, 116, 101]⟩ : ByteArray), (⟨#[115, 117, 112, 112, 108, 121]⟩ : ByteArray), (⟨#[115, 97, 108, 101]⟩ : ByteArray), (⟨#[108, 97, 116, 101]⟩ : ByteArray), (⟨#[109, 105, 120, 101, 100]⟩ : ByteArray)] : List ByteArray) (2 : Int) = (⟨#[115, 117, 112, 112, 108, 121]⟩ : ByteArray) from rfl, hv, Option.bind_some, fT_supply, Option.bind_some, if_pos rfl, if_neg (by simp), show wrap64 ((2 : Int) + 1) = 3 from by unfold wrap64; omega]
theorem l1_3 (k : Nat) (a0_0 : Int) (a0_1 : Int) (a0_2 : Int) (a0_3 : Int) (a0_4 : Int) (a0_5 : Int) (a0_6 : ByteArray) (a0_7 : Bool) (a0_8 : Int) (a0_9 : Int) (a0_10 : Int) (a0_11 : ByteArray) (a0_12 : ByteArray) (a0_13 : Int) (a0_14 : Int) (a0_15 : Int) (a0_16 : Bool) : octroilaw25_EntryKnown.l1 (k + 1) [(⟨#[116, 114, 101, 97, 116]⟩ : ByteArray), (⟨#[114, 97, 116, 101]⟩ : ByteArray), (⟨#[115, 117, 112, 112, 108, 121]⟩ : ByteArray), (⟨#[115, 97, 108, 101]⟩ : ByteArray), (⟨#[108, 97, 116, 101]⟩ : ByteArray), (⟨#[109, 105, 120, 101, 100]⟩ : ByteArray)] 6 3 a0_0 a0_1 a0_2 a0_3 a0_4 a0_5 a0_6 a0_7 a0_8 a0_9 a0_10 a0_11 a0_12 a0_13 a0_14 a0_15 a0_16 = octroilaw25_EntryKnown.l1 k [(⟨#[116, 114, 101, 97, 116]⟩ : ByteArray), (⟨#[114, 97, 116, 101]⟩ : ByteArray), (⟨#[115, 117, 112, 112, 108, 121]⟩ : ByteArray), (⟨#[115, 97, 108, 101]⟩ : ByteArray), (⟨#[108, 97, 116, 101]⟩ : ByteArray), (⟨#[109, 105, 120, 101, 100]⟩ : ByteArray)] 6 4 a0_0 a0_1 a0_2 a0_3 a0_4 a0_5 a0_6 a0_7 a0_8 a0_9 a0_10 a0_11 a0_12 a0_13 a0_14 a0_15 a0_16 := by
  obtain ⟨v, hv⟩ := tT_sale a0_0 a0_1 a0_2 a0_3 a0_4 a0_5 a0_6 a0_7 a0_8 a0_9 a0_10 a0_11 a0_12 a0_13 a0_14 a0_15 a0_16
  rw [octroilaw25_EntryKnown.l1, if_pos (by decide), if_pos (by decide), if_pos (by decide), show rdOf ByteArray.empty ([(⟨#[116, 114, 101, 97, 116]⟩ : ByteArray), (⟨#[114, 97, 116, 101]⟩ : ByteArray), (⟨#[115, 117, 112, 112, 108, 121]⟩ : ByteArray), (⟨#[115, 97, 108, 101]⟩ : ByteArray), (⟨#[108, 97, 116, 101]⟩ : ByteArray), (⟨#[109, 105, 120, 101, 100]⟩ : ByteArray)] : List ByteArray) (3 : Int) = (⟨#[115, 97, 108, 101]⟩ : ByteArray) from rfl, hv, Option.bind_some, fT_sale, Option.bind_some, if_pos rfl, if_neg (by simp), show wrap64 ((3 : Int) + 1) = 4 from by unfold wrap64; omega]
theorem l1_4 (k : Nat) (a0_0 : Int) (a0_1 : Int) (a0_2 : Int) (a0_3 : Int) (a0_4 : Int) (a0_5 : Int) (a0_6 : ByteArray) (a0_7 : Bool) (a0_8 : Int) (a0_9 : Int) (a0_10 : Int) (a0_11 : ByteArray) (a0_12 : ByteArray) (a0_13 : Int) (a0_14 : Int) (a0_15 : Int) (a0_16 : Bool) : octroilaw25_EntryKnown.l1 (k + 1) [(⟨#[116, 114, 101, 97, 116]⟩ : ByteArray), (⟨#[114, 97, 116, 101]⟩ : ByteArray), (⟨#[115, 117, 112, 112, 108, 121]⟩ : ByteArray), (⟨#[115, 97, 108, 101]⟩ : ByteArray), (⟨#[108, 97, 116, 101]⟩ : ByteArray), (⟨#[109, 105, 120, 101, 100]⟩ : ByteArray)] 6 4 a0_0 a0_1 a0_2 a0_3 a0_4 a0_5 a0_6 a0_7 a0_8 a0_9 a0_10 a0_11 a0_12 a0_13 a0_14 a0_15 a0_16 = octroilaw25_EntryKnown.l1 k [(⟨#[116, 114, 101, 97, 116]⟩ : ByteArray), (⟨#[114, 97, 116, 101]⟩ : ByteArray), (⟨#[115, 117, 112, 112, 108, 121]⟩ : ByteArray), (⟨#[115, 97, 108, 101]⟩ : ByteArray), (⟨#[108, 97, 116, 101]⟩ : ByteArray), (⟨#[109, 105, 120, 101, 100]⟩ : ByteArray)] 6 5 a0_0 a0_1 a0_2 a0_3 a0_4 a0_5 a0_6 a0_7 a0_8 a0_9 a0_10 a0_11 a0_12 a0_13 a0_14 a0_15 a0_16 := by
  obtain ⟨v, hv⟩ := tT_late a0_0 a0_1 a0_2 a0_3 a0_4 a0_5 a0_6 a0_7 a0_8 a0_9 a0_10 a0_11 a0_12 a0_13 a0_14 a0_15 a0_16
  rw [octroilaw25_EntryKnown.l1, if_pos (by decide), if_pos (by decide), if_pos (by decide), show rdOf ByteArray.empty ([(⟨#[116, 114, 101, 97, 116]⟩ : ByteArray), (⟨#[114, 97, 116, 101]⟩ : ByteArray), (⟨#[115, 117, 112, 112, 108, 121]⟩ : ByteArray), (⟨#[115, 97, 108, 101]⟩ : ByteArray), (⟨#[108, 97, 116, 101]⟩ : ByteArray), (⟨#[109, 105, 120, 101, 100]⟩ : ByteArray)] : List ByteArray) (4 : Int) = (⟨#[108, 97, 116, 101]⟩ : ByteArray) from rfl, hv, Option.bind_some, fT_late, Option.bind_some, if_pos rfl, if_neg (by simp), show wrap64 ((4 : Int) + 1) = 5 from by unfold wrap64; omega]
theorem l1_5 (k : Nat) (a0_0 : Int) (a0_1 : Int) (a0_2 : Int) (a0_3 : Int) (a0_4 : Int) (a0_5 : Int) (a0_6 : ByteArray) (a0_7 : Bool) (a0_8 : Int) (a0_9 : Int) (a0_10 : Int) (a0_11 : ByteArray) (a0_12 : ByteArray) (a0_13 : Int) (a0_14 : Int) (a0_15 : Int) (a0_16 : Bool) : octroilaw25_EntryKnown.l1 (k + 1) [(⟨#[116, 114, 101, 97, 116]⟩ : ByteArray), (⟨#[114, 97, 116, 101]⟩ : ByteArray), (⟨#[115, 117, 112, 112, 108, 121]⟩ : ByteArray), (⟨#[115, 97, 108, 101]⟩ : ByteArray), (⟨#[108, 97, 116, 101]⟩ : ByteArray), (⟨#[109, 105, 120, 101, 100]⟩ : ByteArray)] 6 5 a0_0 a0_1 a0_2 a0_3 a0_4 a0_5 a0_6 a0_7 a0_8 a0_9 a0_10 a0_11 a0_12 a0_13 a0_14 a0_15 a0_16 = octroilaw25_EntryKnown.l1 k [(⟨#[116, 114, 101, 97, 116]⟩ : ByteArray), (⟨#[114, 97, 116, 101]⟩ : ByteArray), (⟨#[115, 117, 112, 112, 108, 121]⟩ : ByteArray), (⟨#[115, 97, 108, 101]⟩ : ByteArray), (⟨#[108, 97, 116, 101]⟩ : ByteArray), (⟨#[109, 105, 120, 101, 100]⟩ : ByteArray)] 6 6 a0_0 a0_1 a0_2 a0_3 a0_4 a0_5 a0_6 a0_7 a0_8 a0_9 a0_10 a0_11 a0_12 a0_13 a0_14 a0_15 a0_16 := by
  obtain ⟨v, hv⟩ := tT_mixed a0_0 a0_1 a0_2 a0_3 a0_4 a0_5 a0_6 a0_7 a0_8 a0_9 a0_10 a0_11 a0_12 a0_13 a0_14 a0_15 a0_16
  rw [octroilaw25_EntryKnown.l1, if_pos (by decide), if_pos (by decide), if_pos (by decide), show rdOf ByteArray.empty ([(⟨#[116, 114, 101, 97, 116]⟩ : ByteArray), (⟨#[114, 97, 116, 101]⟩ : ByteArray), (⟨#[115, 117, 112, 112, 108, 121]⟩ : ByteArray), (⟨#[115, 97, 108, 101]⟩ : ByteArray), (⟨#[108, 97, 116, 101]⟩ : ByteArray), (⟨#[109, 105, 120, 101, 100]⟩ : ByteArray)] : List ByteArray) (5 : Int) = (⟨#[109, 105, 120, 101, 100]⟩ : ByteArray) from rfl, hv, Option.bind_some, fT_mixed, Option.bind_some, if_pos rfl, if_neg (by simp), show wrap64 ((5 : Int) + 1) = 6 from by unfold wrap64; omega]
theorem end1 (k : Nat) (a0_0 : Int) (a0_1 : Int) (a0_2 : Int) (a0_3 : Int) (a0_4 : Int) (a0_5 : Int) (a0_6 : ByteArray) (a0_7 : Bool) (a0_8 : Int) (a0_9 : Int) (a0_10 : Int) (a0_11 : ByteArray) (a0_12 : ByteArray) (a0_13 : Int) (a0_14 : Int) (a0_15 : Int) (a0_16 : Bool) : octroilaw25_EntryKnown.l1 (k + 1) [(⟨#[116, 114, 101, 97, 116]⟩ : ByteArray), (⟨#[114, 97, 116, 101]⟩ : ByteArray), (⟨#[115, 117, 112, 112, 108, 121]⟩ : ByteArray), (⟨#[115, 97, 108, 101]⟩ : ByteArray), (⟨#[108, 97, 116, 101]⟩ : ByteArray), (⟨#[109, 105, 120, 101, 100]⟩ : ByteArray)] 6 6 a0_0 a0_1 a0_2 a0_3 a0_4 a0_5 a0_6 a0_7 a0_8 a0_9 a0_10 a0_11 a0_12 a0_13 a0_14 a0_15 a0_16 = some true := by
  rw [octroilaw25_EntryKnown.l1, if_neg (by decide), lives]
  rfl
theorem end0 (k : Nat) (a0_0 : Int) (a0_1 : Int) (a0_2 : Int) (a0_3 : Int) (a0_4 : Int) (a0_5 : Int) (a0_6 : ByteArray) (a0_7 : Bool) (a0_8 : Int) (a0_9 : Int) (a0_10 : Int) (a0_11 : ByteArray) (a0_12 : ByteArray) (a0_13 : Int) (a0_14 : Int) (a0_15 : Int) (a0_16 : Bool) : octroilaw25_EntryKnown.l0 (k + 8) [(⟨#[98, 97, 115, 101]⟩ : ByteArray), (⟨#[116, 97, 120]⟩ : ByteArray), (⟨#[111, 117, 116]⟩ : ByteArray), (⟨#[105, 110]⟩ : ByteArray)] 4 4 a0_0 a0_1 a0_2 a0_3 a0_4 a0_5 a0_6 a0_7 a0_8 a0_9 a0_10 a0_11 a0_12 a0_13 a0_14 a0_15 a0_16 = some true := by
  rw [octroilaw25_EntryKnown.l0, if_neg (by decide), show entry_Tags.f = some [(⟨#[116, 114, 101, 97, 116]⟩ : ByteArray), (⟨#[114, 97, 116, 101]⟩ : ByteArray), (⟨#[115, 117, 112, 112, 108, 121]⟩ : ByteArray), (⟨#[115, 97, 108, 101]⟩ : ByteArray), (⟨#[108, 97, 116, 101]⟩ : ByteArray), (⟨#[109, 105, 120, 101, 100]⟩ : ByteArray)] from rfl, Option.bind_some]
  show octroilaw25_EntryKnown.l1 (k + 7) [(⟨#[116, 114, 101, 97, 116]⟩ : ByteArray), (⟨#[114, 97, 116, 101]⟩ : ByteArray), (⟨#[115, 117, 112, 112, 108, 121]⟩ : ByteArray), (⟨#[115, 97, 108, 101]⟩ : ByteArray), (⟨#[108, 97, 116, 101]⟩ : ByteArray), (⟨#[109, 105, 120, 101, 100]⟩ : ByteArray)] 6 0 a0_0 a0_1 a0_2 a0_3 a0_4 a0_5 a0_6 a0_7 a0_8 a0_9 a0_10 a0_11 a0_12 a0_13 a0_14 a0_15 a0_16 = some true
  rw [l1_0, l1_1, l1_2, l1_3, l1_4, l1_5, end1]
theorem EntryKnown : octroilaw25_EntryKnown.Pure := by
  intro x0 hg
  refine ⟨20, ?_⟩
  generalize x0.f0.f0 = a0_0
  generalize x0.f0.f1 = a0_1
  generalize x0.f0.f2 = a0_2
  generalize x0.f1.f0 = a0_3
  generalize x0.f1.f1 = a0_4
  generalize x0.f1.f2 = a0_5
  generalize x0.f2 = a0_6
  generalize x0.f3 = a0_7
  generalize x0.f4 = a0_8
  generalize x0.f5 = a0_9
  generalize x0.f6 = a0_10
  generalize x0.f7 = a0_11
  generalize x0.f8 = a0_12
  generalize x0.f9 = a0_13
  generalize x0.f10 = a0_14
  generalize x0.f11 = a0_15
  generalize x0.f12 = a0_16
  unfold octroilaw25_EntryKnown.f
  obtain ⟨b, hb⟩ : ∃ b, octroilaw24_Light.f a0_0 a0_1 a0_2 a0_3 a0_4 a0_5 a0_6 a0_7 a0_8 a0_9 a0_10 a0_11 a0_12 a0_13 a0_14 a0_15 a0_16 = some b := ⟨_, rfl⟩
  rw [hb, Option.bind_some]
  cases b
  · rw [if_neg (by simp), lives]
    rfl
  · rw [if_pos rfl, show entry_Fields.f = some [(⟨#[98, 97, 115, 101]⟩ : ByteArray), (⟨#[116, 97, 120]⟩ : ByteArray), (⟨#[111, 117, 116]⟩ : ByteArray), (⟨#[105, 110]⟩ : ByteArray)] from rfl, Option.bind_some, if_pos (by decide), show entry_Tags.f = some [(⟨#[116, 114, 101, 97, 116]⟩ : ByteArray), (⟨#[114, 97, 116, 101]⟩ : ByteArray), (⟨#[115, 117, 112, 112, 108, 121]⟩ : ByteArray), (⟨#[115, 97, 108, 101]⟩ : ByteArray), (⟨#[108, 97, 116, 101]⟩ : ByteArray), (⟨#[109, 105, 120, 101, 100]⟩ : ByteArray)] from rfl, Option.bind_some]
    show octroilaw25_EntryKnown.j0 (19 + 1) false a0_0 a0_1 a0_2 a0_3 a0_4 a0_5 a0_6 a0_7 a0_8 a0_9 a0_10 a0_11 a0_12 a0_13 a0_14 a0_15 a0_16 = some true
    rw [octroilaw25_EntryKnown.j0, if_neg (by simp), show entry_Fields.f = some [(⟨#[98, 97, 115, 101]⟩ : ByteArray), (⟨#[116, 97, 120]⟩ : ByteArray), (⟨#[111, 117, 116]⟩ : ByteArray), (⟨#[105, 110]⟩ : ByteArray)] from rfl, Option.bind_some]
    show octroilaw25_EntryKnown.l0 (18 + 1) [(⟨#[98, 97, 115, 101]⟩ : ByteArray), (⟨#[116, 97, 120]⟩ : ByteArray), (⟨#[111, 117, 116]⟩ : ByteArray), (⟨#[105, 110]⟩ : ByteArray)] 4 0 a0_0 a0_1 a0_2 a0_3 a0_4 a0_5 a0_6 a0_7 a0_8 a0_9 a0_10 a0_11 a0_12 a0_13 a0_14 a0_15 a0_16 = some true
    rw [l0_0, l0_1, l0_2, l0_3, end0]
end Go.Proofs.YtlciddgncngniaaDoor.Pure
