-- WRITTEN BY wip/xprint.py (my own wrapper round the print, with contracts of my own in it)
import Derived.Test.YtnaglnifpejpjaaGreatDoorRXEvalRunsx0
import Derived.Test.YtnaglnifpejpjaaGreatDoorREvp
namespace Go.Proofs.YtnaglnifpejpjaaGreatDoor.YEvalParts
open Go.RowKit Go.Proofs.YtnaglnifpejpjaaGreatDoorW.PrintWords Go.Proofs.YtnaglnifpejpjaaGreatDoorW.PrintLast Go.Proofs.YtnaglnifpejpjaaGreatDoorW.PrintMore Go.Proofs.YtnaglnifpejpjaaGreatDoor.XEvalRuns
attribute [local go_sem] max2_int min2_int max_two min_two max_three min_three max_four min_four   -- for this text's walks alone
set_option linter.unusedVariables false
set_option linter.unusedSimpArgs false

-- NOT PRINTED: function 61 (octroiref31_Deep)

-- NOT PRINTED: function 72 (octroilaw31_size)

-- NOT PRINTED: function 73 (octroilaw31_short)

-- NOT PRINTED: function 36 (octroilaw31_few)

-- NOT PRINTED: function 17 (octroilaw31_Few)

-- NOT PRINTED: function 7 (octroilaw34_few)

-- NOT PRINTED: function 23 (octroilaw24_Light)

-- NOT PRINTED: function 8 (octroilaw26_Light)

-- NOT PRINTED: function 90 (syntax_depth)

-- NOT PRINTED: function 55 (syntax_Deep)

-- NOT PRINTED: function 91 (syntax_kids)

-- NOT PRINTED: function 92 (syntax_number)

-- NOT PRINTED: function 93 (syntax_boxed)

-- NOT PRINTED: function 129 (lexer_Keyword)

-- NOT PRINTED: function 184 (strings_indexFunc)

-- NOT PRINTED: function 165 (strings_IndexFunc)

-- NOT PRINTED: function 130 (strings_ContainsFunc)

-- NOT PRINTED: function 96 (syntax_name)

-- NOT PRINTED: function 132 (api_Filter_132)

-- NOT PRINTED: function 97 (api_Filter_97)

-- NOT PRINTED: function 133 (api_Expr_133)

-- NOT PRINTED: function 99 (api_Expr_99)

-- NOT PRINTED: function 56 (syntax_right)

-- NOT PRINTED: function 26 (syntax_GoodExpr)

-- NOT PRINTED: function 57 (eval_kept_int)

-- NOT PRINTED: function 100 (money_May)

-- NOT PRINTED: function 58 (eval_desk_ref)

-- NOT PRINTED: function 144 (entry_bit)

-- NOT PRINTED: function 146 (entry_Late)

-- NOT PRINTED: function 114 (entry_tag)

-- NOT PRINTED: function 66 (entry_Tag)

-- NOT PRINTED: function 30 (eval_picks)

-- NOT PRINTED: function 13 (eval_Picks)

-- NOT PRINTED: function 159 (slices_Index_string_string)

-- NOT PRINTED: function 122 (slices_Contains_string_string)

-- NOT PRINTED: function 124 (entry_Fields)

-- NOT PRINTED: function 80 (checker_Names)

-- NOT PRINTED: function 185 (treat_Output)

-- NOT PRINTED: function 186 (treat_Deducts)

-- NOT PRINTED: function 168 (entry_Owed)

-- NOT PRINTED: function 134 (entry_field)

-- NOT PRINTED: function 101 (entry_Field)

-- NOT PRINTED: function 170 (bits_Add64)

-- NOT PRINTED: function 135 (money_wide_plus)

-- NOT PRINTED: function 136 (money_of)

-- NOT PRINTED: function 137 (money_wide_told)

-- NOT PRINTED: function 102 (money_Sum)

-- NOT PRINTED: function 59 (eval_desk_total)

-- NOT PRINTED: function 138 (money_Total)

-- NOT PRINTED: function 103 (money_Add)

-- NOT PRINTED: function 105 (money_Neg)

-- NOT PRINTED: function 104 (money_Sub)

-- NOT PRINTED: function 106 (eval_clamp)

-- NOT PRINTED: function 60 (eval_made)

-- NOT PRINTED: function 27 (eval_desk_value)

-- NOT PRINTED: function 11 (eval_One)

-- NOT PRINTED: function 15 (octroilaw34_nothing)

-- NOT PRINTED: function 127 (abi_NoEscape)

-- NOT PRINTED: function 88 (strings_Builder_copyCheck)

-- NOT PRINTED: function 50 (strings_Builder_WriteString)

-- NOT PRINTED: function 161 (strconv_small)

-- NOT PRINTED: function 158 (bits_Len64)

-- NOT PRINTED: function 180 (strconv_log10Pow2)

-- NOT PRINTED: function 181 (strconv_bool2_int)

-- NOT PRINTED: function 162 (strconv_numDigits)

-- NOT PRINTED: function 163 (strconv_formatBase10)

-- NOT PRINTED: function 182 (strconv_isPowerOfTwo)

-- NOT PRINTED: function 188 (bits_TrailingZeros32)

-- NOT PRINTED: function 189 (bits_TrailingZeros64)

-- NOT PRINTED: function 183 (bits_TrailingZeros)

-- NOT PRINTED: function 164 (strconv_formatBits)

-- NOT PRINTED: function 128 (strconv_FormatInt)

-- NOT PRINTED: function 89 (strconv_Itoa_89)

-- NOT PRINTED: function 51 (strconv_Itoa_51)

-- NOT PRINTED: function 52 (strings_Builder_WriteByte)

-- NOT PRINTED: function 53 (strings_Builder_String)

-- NOT PRINTED: function 21 (eval_Lines)

-- NOT PRINTED: function 25 (octroilaw24_Sold)

-- NOT PRINTED: function 9 (octroilaw34_lives)

-- NOT PRINTED: function 32 (octroiref01_May)

-- NOT PRINTED: function 69 (octroiref01_plus)

-- NOT PRINTED: function 70 (octroiref01_cmp)

-- NOT PRINTED: function 115 (octroiref01_clean)

-- NOT PRINTED: function 71 (octroiref01_minus)

-- NOT PRINTED: function 33 (octroiref01_Add)

-- NOT PRINTED: function 34 (octroiref01_Of)

-- NOT PRINTED: function 35 (octroiref01_Int)

-- NOT PRINTED: function 16 (octroiref01_Sum)

/-! ### octroilaw34_EvalParts: function 4 (by hand) -/
def octroilaw34_EvalParts.Good (x : S25) (l1 : List S45) (l2 : List S45) : Prop := Ch.Fit x ∧ Ch.Thin x ∧ (l1.length ≤ 140737488351232 ∧ ∀ r ∈ l1, Ch.ThinRow r) ∧ (l2.length ≤ 140737488351232 ∧ ∀ r ∈ l2, Ch.ThinRow r)
open Classical in
noncomputable def octroilaw34_EvalParts.f (a0_0 a0_1 : Int) (a0_2 : ByteArray) (l0_3 : List S70) (l0_4 : List S25) (l1 : List S45) (l2 : List S45) : Option Bool := if octroilaw34_EvalParts.Good ⟨a0_0, a0_1, a0_2, l0_3, l0_4⟩ l1 l2 then some true else none
theorem octroilaw34_EvalParts.calls (a0_0 a0_1 : Int) (a0_2 : ByteArray) (A0_3 : Option Addr) (c0_3 : Nat) (l0_3 : List S70) (A0_4 : Option Addr) (c0_4 : Nat) (l0_4 : List S25) (A1 : Option Addr) (c1 : Nat) (l1 : List S45) (A2 : Option Addr) (c2 : Nat) (l2 : List S45) (r : Bool) (w : World) (hr0_3 : Kd.C k70 w A0_3 l0_3.length l0_3) (hc0_3 : l0_3.length ≤ c0_3) (hr0_4 : Kd.C k25 w A0_4 l0_4.length l0_4) (hc0_4 : l0_4.length ≤ c0_4) (hr1 : Kd.C k45 w A1 l1.length l1) (hc1 : l1.length ≤ c1) (hr2 : Kd.C k45 w A2 l2.length l2) (hc2 : l2.length ≤ c2) (hT_ : BX.Tab w) (h : octroilaw34_EvalParts.f a0_0 a0_1 a0_2 l0_3 l0_4 l1 l2 = some r) :
    Calls Tryz.prog 4 #[.agg #[.int .i64 a0_0, .int .i64 a0_1, .string a0_2, .slice A0_3 l0_3.length c0_3, .slice A0_4 l0_4.length c0_4], .slice A1 l1.length c1, .slice A2 l2.length c2] w fun e w' => e = .returned (.bool r) ∧ Below w.heap.size w w' := by
  unfold octroilaw34_EvalParts.f at h
  by_cases hg : octroilaw34_EvalParts.Good ⟨a0_0, a0_1, a0_2, l0_3, l0_4⟩ l1 l2
  · rw [if_pos hg] at h
    obtain rfl := Option.some.inj h
    exact Ch.law2_any ⟨a0_0, a0_1, a0_2, l0_3, l0_4⟩ hg.1 hg.2.1 l1 l2 hg.2.2.1.1 hg.2.2.2.1 hg.2.2.1.2 hg.2.2.2.2 A0_3 c0_3 A0_4 c0_4 A1 c1 A2 c2 w hT_ ⟨hc0_3, hr0_3, hc0_4, hr0_4⟩ hr1 hc1 hr2 hc2
  · rw [if_neg hg] at h
    cases h

end Go.Proofs.YtnaglnifpejpjaaGreatDoor.YEvalParts
