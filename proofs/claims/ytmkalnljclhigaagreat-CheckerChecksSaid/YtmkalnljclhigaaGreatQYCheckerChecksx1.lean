-- WRITTEN BY wip/xprint.py (my own wrapper round the print, with contracts of my own in it)
import Derived.Test.YtmkalnljclhigaaGreatQXCheckerChecksx0
import Derived.Test.YtmkalnljclhigaaGreatQCk12
namespace Go.Proofs.YtmkalnljclhigaaGreat.YCheckerChecks
open Go.RowKit Go.Proofs.YtmkalnljclhigaaGreatW.PrintWords Go.Proofs.YtmkalnljclhigaaGreatW.PrintLast Go.Proofs.YtmkalnljclhigaaGreatW.PrintMore Go.Proofs.YtmkalnljclhigaaGreat.XCheckerChecks
attribute [local go_sem] max2_int min2_int max_two min_two max_three min_three max_four min_four   -- for this text's walks alone
set_option linter.unusedVariables false
set_option linter.unusedSimpArgs false

-- NOT PRINTED: function 32 (octroiref31_Deep)

-- NOT PRINTED: function 45 (octroilaw31_size)

-- NOT PRINTED: function 46 (octroilaw31_short)

-- NOT PRINTED: function 21 (octroilaw31_few)

-- NOT PRINTED: function 4 (octroilaw31_Few)

-- NOT PRINTED: function 65 (api_Box_65)

-- NOT PRINTED: function 47 (api_Box_47)

-- NOT PRINTED: function 23 (syntax_Good)

-- NOT PRINTED: function 24 (api_Box_24)

-- NOT PRINTED: function 25 (checker_Plan_find)

-- NOT PRINTED: function 102 (cmp_isNaN_int)

-- NOT PRINTED: function 84 (cmp_Less_int)

-- NOT PRINTED: function 78 (slices_insertionSortOrdered_int)

-- NOT PRINTED: function 97 (slices_siftDownOrdered_int)

-- NOT PRINTED: function 79 (slices_heapSortOrdered_int)

-- NOT PRINTED: function 87 (bits_Len32)

-- NOT PRINTED: function 88 (bits_Len64)

-- NOT PRINTED: function 71 (bits_Len)

-- NOT PRINTED: function 98 (slices_nextPowerOfTwo)

-- NOT PRINTED: function 99 (slices_xorshift_Next)

-- NOT PRINTED: function 80 (slices_breakPatternsOrdered_int)

-- NOT PRINTED: function 107 (slices_order2Ordered_int)

-- NOT PRINTED: function 101 (slices_medianOrdered_int)

-- NOT PRINTED: function 100 (slices_medianAdjacentOrdered_int)

-- NOT PRINTED: function 81 (slices_choosePivotOrdered_int)

-- NOT PRINTED: function 82 (slices_reverseRangeOrdered_int)

-- NOT PRINTED: function 83 (slices_partialInsertionSortOrdered_int)

-- NOT PRINTED: function 85 (slices_partitionEqualOrdered_int)

-- NOT PRINTED: function 86 (slices_partitionOrdered_int)

-- NOT PRINTED: function 70 (slices_pdqsortOrdered_int)

-- NOT PRINTED: function 51 (slices_Sort_int_int)

-- NOT PRINTED: function 89 (syntax_depth)

-- NOT PRINTED: function 76 (syntax_Deep)

-- NOT PRINTED: function 61 (api_Filter_61)

-- NOT PRINTED: function 38 (api_Filter_38)

-- NOT PRINTED: function 66 (syntax_boxed)

-- NOT PRINTED: function 90 (syntax_kids)

-- NOT PRINTED: function 91 (syntax_number)

-- NOT PRINTED: function 103 (lexer_Keyword)

-- NOT PRINTED: function 109 (strings_indexFunc)

-- NOT PRINTED: function 108 (strings_IndexFunc)

-- NOT PRINTED: function 104 (strings_ContainsFunc)

-- NOT PRINTED: function 94 (syntax_name)

-- NOT PRINTED: function 106 (api_Expr_106)

-- NOT PRINTED: function 96 (api_Expr_96)

-- NOT PRINTED: function 77 (syntax_right)

-- NOT PRINTED: function 67 (syntax_GoodExpr)

-- NOT PRINTED: function 69 (slices_Compact_int_int)

-- NOT PRINTED: function 50 (syntax_Refs)

-- NOT PRINTED: function 26 (checker_Plan_need)

-- NOT PRINTED: function 27 (checker_Plan_names)

-- NOT PRINTED: function 29 (checker_Plan_done)

-- NOT PRINTED: function 6 (checker_Check)

-- NOT PRINTED: function 14 (octroiref03_Same)

-- NOT PRINTED: function 41 (checker_Plan_none)

-- NOT PRINTED: function 42 (slices_Clone_int_int)

-- NOT PRINTED: function 15 (checker_Plan_Order)

-- NOT PRINTED: function 5 (octroilaw33_lives)

-- NOT PRINTED: function 74 (octroiref18_Output)

-- NOT PRINTED: function 75 (octroiref18_Deducts)

-- NOT PRINTED: function 62 (octroiref25_Owed)

-- NOT PRINTED: function 39 (octroiref25_Field)

-- NOT PRINTED: function 63 (octroiref25_one)

-- NOT PRINTED: function 64 (octroiref25_Late)

-- NOT PRINTED: function 40 (octroiref25_Tag)

-- NOT PRINTED: function 10 (octroiref33_Names)

-- NOT PRINTED: function 12 (octroiref33_Find)

-- NOT PRINTED: function 55 (octroiref31_BoxNumber)

-- NOT PRINTED: function 57 (octroiref31_many)

-- NOT PRINTED: function 58 (octroiref31_number)

-- NOT PRINTED: function 73 (octroiref30_Keyword)

-- NOT PRINTED: function 59 (octroiref31_Name)

-- NOT PRINTED: function 33 (octroiref31_right)

-- NOT PRINTED: function 8 (octroiref31_GoodExpr)

-- NOT PRINTED: function 56 (octroiref31_gather)

-- NOT PRINTED: function 31 (octroiref31_Refs)

-- NOT PRINTED: function 20 (octroiref33_Needs)

-- NOT PRINTED: function 43 (octroiref33_all)

-- NOT PRINTED: function 16 (octroiref33_Order)

-- NOT PRINTED: function 30 (octroiref31_Good)

-- NOT PRINTED: function 7 (octroiref33_Check)

-- NOT PRINTED: function 60 (slices_Index_string_string)

-- NOT PRINTED: function 35 (slices_Contains_string_string)

-- NOT PRINTED: function 37 (entry_Fields)

-- NOT PRINTED: function 9 (checker_Names)

-- NOT PRINTED: function 11 (checker_Plan_Find)

-- NOT PRINTED: function 13 (checker_Plan_Len)

-- NOT PRINTED: function 44 (checker_Plan_has)

-- NOT PRINTED: function 17 (checker_Plan_Box)

-- NOT PRINTED: function 18 (checker_Plan_Needs)

-- NOT PRINTED: function 19 (octroiref31_SameExpr)

/-! ### octroilaw33_CheckerChecks: function 3 (by hand) -/
def octroilaw33_CheckerChecks.Good (l0 : List S35) (n : Int) : Prop := l0.length ≤ 140737488351232 ∧ (∀ x ∈ l0, Ch.Fit x.f1 ∧ Ch.Thin x.f1) ∧ (Lit.int .i64 n).wf = true
open Classical in
noncomputable def octroilaw33_CheckerChecks.f (l0 : List S35) (a1 a2 : Int) : Option Bool := if octroilaw33_CheckerChecks.Good l0 a1 then some true else none
theorem octroilaw33_CheckerChecks.calls (A0 : Option Addr) (c0 : Nat) (l0 : List S35) (a1 a2 : Int) (r : Bool) (w : World) (hr0 : Kd.C k35 w A0 l0.length l0) (hc0 : l0.length ≤ c0) (h : octroilaw33_CheckerChecks.f l0 a1 a2 = some r) :
    Calls Tryz.prog 3 #[.slice A0 l0.length c0, .int .i64 a1, .int .i64 a2] w fun e w' => e = .returned (.bool r) ∧ Below w.heap.size w w' := by
  unfold octroilaw33_CheckerChecks.f at h
  by_cases hg : octroilaw33_CheckerChecks.Good l0 a1
  · rw [if_pos hg] at h
    obtain rfl := Option.some.inj h
    exact Ch.checks_any w A0 c0 l0 a1 a2 hr0 hc0 hg.1 hg.2.1 hg.2.2
  · rw [if_neg hg] at h
    cases h

end Go.Proofs.YtmkalnljclhigaaGreat.YCheckerChecks
