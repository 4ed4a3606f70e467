-- WRITTEN BY wip/xprint.py (my own wrapper round the print, with contracts of my own in it)
import Derived.Test.YtbjoegladcmibaaXRatesNobodyx0
namespace Go.Proofs.Ytbjoegladcmibaa.XRatesNobody
open Go.RowKit Go.Proofs.YtbjoegladcmibaaW.PrintWords Go.Proofs.YtbjoegladcmibaaW.PrintLast Go.Proofs.YtbjoegladcmibaaW.PrintMore
attribute [local go_sem] max2_int min2_int max_two min_two max_three min_three max_four min_four   -- for this text's walks alone
set_option linter.unusedVariables false
set_option linter.unusedSimpArgs false

-- NOT PRINTED: function 13 (rates_New)

-- NOT PRINTED: function 52 (rates_Rates_none)

-- NOT PRINTED: function 115 (slices_Index_string_string)

-- NOT PRINTED: function 87 (slices_Contains_string_string)

-- NOT PRINTED: function 88 (vatid_Members)

-- NOT PRINTED: function 53 (vatid_Member)

-- NOT PRINTED: function 89 (timeline_Line_int_none)

-- NOT PRINTED: function 90 (timeline_Span_right)

-- NOT PRINTED: function 116 (timeline_held_int_int)

-- NOT PRINTED: function 91 (timeline_Line_int_find)

-- NOT PRINTED: function 92 (timeline_Meet)

-- NOT PRINTED: function 118 (timeline_held_int_118)

-- NOT PRINTED: function 168 (timeline_held_int_168)

-- NOT PRINTED: function 153 (timeline_held_int_153)

-- NOT PRINTED: function 119 (timeline_held_int_119)

-- NOT PRINTED: function 93 (timeline_held_int_93)

-- NOT PRINTED: function 56 (timeline_Line_int_Set)

-- NOT PRINTED: function 14 (rates_Rates_Set)

-- NOT PRINTED: function 57 (timeline_Line_int_At)

-- NOT PRINTED: function 15 (rates_Rates_Of)

-- NOT PRINTED: function 12 (octroilaw14_lives)

-- NOT PRINTED: function 103 (maps_clone)

-- NOT PRINTED: function 76 (timeline_Line_int)

-- NOT PRINTED: function 111 (timeline_held_int_111)

-- NOT PRINTED: function 77 (timeline_Line_int_Clone)

-- NOT PRINTED: function 35 (rates_Rates_Clone)

-- NOT PRINTED: function 78 (timeline_Line_int_Len)

-- NOT PRINTED: function 36 (rates_Rates_Len)

-- NOT PRINTED: function 142 (bits_Len32)

-- NOT PRINTED: function 143 (bits_Len64)

-- NOT PRINTED: function 110 (bits_Len)

-- NOT PRINTED: function 167 (cmp_isNaN_string)

-- NOT PRINTED: function 150 (cmp_Less_string)

-- NOT PRINTED: function 144 (slices_insertionSortOrdered_string)

-- NOT PRINTED: function 164 (slices_siftDownOrdered_string)

-- NOT PRINTED: function 145 (slices_heapSortOrdered_string)

-- NOT PRINTED: function 159 (slices_nextPowerOfTwo)

-- NOT PRINTED: function 160 (slices_xorshift_Next)

-- NOT PRINTED: function 146 (slices_breakPatternsOrdered_string)

-- NOT PRINTED: function 176 (slices_order2Ordered_string)

-- NOT PRINTED: function 166 (slices_medianOrdered_string)

-- NOT PRINTED: function 165 (slices_medianAdjacentOrdered_string)

-- NOT PRINTED: function 147 (slices_choosePivotOrdered_string)

-- NOT PRINTED: function 148 (slices_reverseRangeOrdered_string)

-- NOT PRINTED: function 149 (slices_partialInsertionSortOrdered_string)

-- NOT PRINTED: function 151 (slices_partitionEqualOrdered_string)

-- NOT PRINTED: function 152 (slices_partitionOrdered_string)

-- NOT PRINTED: function 113 (slices_pdqsortOrdered_string)

-- NOT PRINTED: function 82 (slices_Sort_string_string)

-- NOT PRINTED: function 83 (slices_Compact_string_string)

-- NOT PRINTED: function 40 (rates_Rates_States)

/-! ### octroilaw14_RatesNobody: function 8 (by hand) -/
def octroilaw14_RatesNobody.f (x0_0 : ByteArray) (x0_1 x0_2 : Int) : Option Bool := some true
theorem octroilaw14_RatesNobody.calls (x0_0 : ByteArray) (x0_1 x0_2 : Int) (r : Bool) (w : World) (h : octroilaw14_RatesNobody.f x0_0 x0_1 x0_2 = some r) :
    Calls Try.prog 8 #[.agg #[.string x0_0, .int .i64 x0_1, .int .i64 x0_2]] w fun e w' => e = .returned (.bool r) ∧ Below w.heap.size w w' := by
  obtain rfl := Option.some.inj h
  exact Rt.nobody_any x0_0 x0_1 x0_2 w

end Go.Proofs.Ytbjoegladcmibaa.XRatesNobody
