-- WRITTEN BY wip/xprint.py (my own wrapper round the print, with contracts of my own in it)
import Derived.Test.YtepddfkdjdklnaaQPCheckerOrderx0
import Derived.Test.YtepddfkdjdklnaaQCh34
namespace Go.Proofs.Ytepddfkdjdklnaa.YCheckerOrder
open Go.RowKit Go.Proofs.YtepddfkdjdklnaaW.PrintWords Go.Proofs.YtepddfkdjdklnaaW.PrintLast Go.Proofs.YtepddfkdjdklnaaW.PrintMore Go.Proofs.Ytepddfkdjdklnaa.PCheckerOrder
attribute [local go_sem] max2_int min2_int max_two min_two max_three min_three max_four min_four   -- for this text's walks alone
set_option linter.unusedVariables false
set_option linter.unusedSimpArgs false

-- NOT PRINTED: function 26 (octroiref31_Deep)

-- NOT PRINTED: function 27 (octroilaw31_size)

-- NOT PRINTED: function 28 (octroilaw31_short)

-- NOT PRINTED: function 13 (octroilaw31_few)

-- NOT PRINTED: function 5 (octroilaw31_Few)

-- NOT PRINTED: function 38 (api_Box_38)

-- NOT PRINTED: function 29 (api_Box_29)

-- NOT PRINTED: function 16 (syntax_Good)

-- NOT PRINTED: function 17 (api_Box_17)

-- NOT PRINTED: function 18 (checker_Plan_find)

-- NOT PRINTED: function 79 (cmp_isNaN_int)

-- NOT PRINTED: function 59 (cmp_Less_int)

-- NOT PRINTED: function 53 (slices_insertionSortOrdered_int)

-- NOT PRINTED: function 74 (slices_siftDownOrdered_int)

-- NOT PRINTED: function 54 (slices_heapSortOrdered_int)

-- NOT PRINTED: function 62 (bits_Len32)

-- NOT PRINTED: function 63 (bits_Len64)

-- NOT PRINTED: function 44 (bits_Len)

-- NOT PRINTED: function 75 (slices_nextPowerOfTwo)

-- NOT PRINTED: function 76 (slices_xorshift_Next)

-- NOT PRINTED: function 55 (slices_breakPatternsOrdered_int)

-- NOT PRINTED: function 84 (slices_order2Ordered_int)

-- NOT PRINTED: function 78 (slices_medianOrdered_int)

-- NOT PRINTED: function 77 (slices_medianAdjacentOrdered_int)

-- NOT PRINTED: function 56 (slices_choosePivotOrdered_int)

-- NOT PRINTED: function 57 (slices_reverseRangeOrdered_int)

-- NOT PRINTED: function 58 (slices_partialInsertionSortOrdered_int)

-- NOT PRINTED: function 60 (slices_partitionEqualOrdered_int)

-- NOT PRINTED: function 61 (slices_partitionOrdered_int)

-- NOT PRINTED: function 43 (slices_pdqsortOrdered_int)

-- NOT PRINTED: function 33 (slices_Sort_int_int)

-- NOT PRINTED: function 66 (syntax_depth)

-- NOT PRINTED: function 51 (syntax_Deep)

-- NOT PRINTED: function 39 (syntax_boxed)

-- NOT PRINTED: function 65 (api_Filter_65)

-- NOT PRINTED: function 49 (api_Filter_49)

-- NOT PRINTED: function 67 (syntax_kids)

-- NOT PRINTED: function 68 (syntax_number)

-- NOT PRINTED: function 80 (lexer_Keyword)

-- NOT PRINTED: function 86 (strings_indexFunc)

-- NOT PRINTED: function 85 (strings_IndexFunc)

-- NOT PRINTED: function 81 (strings_ContainsFunc)

-- NOT PRINTED: function 71 (syntax_name)

-- NOT PRINTED: function 83 (api_Expr_83)

-- NOT PRINTED: function 73 (api_Expr_73)

-- NOT PRINTED: function 52 (syntax_right)

-- NOT PRINTED: function 40 (syntax_GoodExpr)

-- NOT PRINTED: function 42 (slices_Compact_int_int)

-- NOT PRINTED: function 32 (syntax_Refs)

-- NOT PRINTED: function 19 (checker_Plan_need)

-- NOT PRINTED: function 20 (checker_Plan_names)

-- NOT PRINTED: function 22 (checker_Plan_done)

-- NOT PRINTED: function 7 (checker_Check)

-- NOT PRINTED: function 23 (checker_Plan_none)

-- NOT PRINTED: function 24 (slices_Clone_int_int)

-- NOT PRINTED: function 8 (checker_Plan_Order)

-- NOT PRINTED: function 15 (octroiref03_Same)

-- NOT PRINTED: function 6 (octroilaw33_lives)

-- NOT PRINTED: function 12 (checker_Plan_Len)

-- NOT PRINTED: function 25 (checker_Plan_has)

-- NOT PRINTED: function 9 (checker_Plan_Needs)

/-! ### octroilaw33_CheckerOrder: function 3 (by hand) -/
def octroilaw33_CheckerOrder.Good (l0 : List S43) : Prop := l0.length ≤ 140737488351232 ∧ ∀ x ∈ l0, Ch.Fit x.f1
open Classical in
noncomputable def octroilaw33_CheckerOrder.f (l0 : List S43) : Option Bool := if octroilaw33_CheckerOrder.Good l0 then some true else none
theorem octroilaw33_CheckerOrder.calls (A0 : Option Addr) (c0 : Nat) (l0 : List S43) (r : Bool) (w : World) (hr0 : Kd.C k43 w A0 l0.length l0) (hc0 : l0.length ≤ c0) (h : octroilaw33_CheckerOrder.f l0 = some r) :
    Calls Try.prog 3 #[.slice A0 l0.length c0] w fun e w' => e = .returned (.bool r) ∧ Below w.heap.size w w' := by
  unfold octroilaw33_CheckerOrder.f at h
  by_cases hg : octroilaw33_CheckerOrder.Good l0
  · rw [if_pos hg] at h
    obtain rfl := Option.some.inj h
    exact Ch.order_any w A0 c0 l0 hr0 hc0 hg.1 hg.2
  · rw [if_neg hg] at h
    cases h

end Go.Proofs.Ytepddfkdjdklnaa.YCheckerOrder
