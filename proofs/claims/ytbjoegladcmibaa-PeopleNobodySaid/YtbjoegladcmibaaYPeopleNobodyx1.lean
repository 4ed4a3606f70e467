-- WRITTEN BY wip/xprint.py (my own wrapper round the print, with contracts of my own in it)
import Derived.Test.YtbjoegladcmibaaYPeopleNobodyx0
namespace Go.Proofs.Ytbjoegladcmibaa.YPeopleNobody
open Go.RowKit Go.Proofs.YtbjoegladcmibaaW.PrintWords Go.Proofs.YtbjoegladcmibaaW.PrintLast Go.Proofs.YtbjoegladcmibaaW.PrintMore
attribute [local go_sem] max2_int min2_int max_two min_two max_three min_three max_four min_four   -- for this text's walks alone
set_option linter.unusedVariables false
set_option linter.unusedSimpArgs false

-- NOT PRINTED: function 16 (octroilaw15_light)

-- NOT PRINTED: function 115 (slices_Index_string_string)

-- NOT PRINTED: function 87 (slices_Contains_string_string)

-- NOT PRINTED: function 88 (vatid_Members)

-- NOT PRINTED: function 53 (vatid_Member)

-- NOT PRINTED: function 94 (timeline_New_bool)

-- NOT PRINTED: function 59 (people_fresh)

-- NOT PRINTED: function 19 (people_New)

-- NOT PRINTED: function 60 (people_People_none)

-- NOT PRINTED: function 120 (vatid_letter)

-- NOT PRINTED: function 95 (vatid_Country)

-- NOT PRINTED: function 124 (vatid_digit)

-- NOT PRINTED: function 98 (vatid_stands)

-- NOT PRINTED: function 96 (vatid_fits)

-- NOT PRINTED: function 121 (vatid_forms)

-- NOT PRINTED: function 97 (vatid_Forms)

-- NOT PRINTED: function 61 (vatid_Right)

-- NOT PRINTED: function 20 (people_People_Status)

-- NOT PRINTED: function 63 (people_choice_holds)

-- NOT PRINTED: function 21 (people_People_Business)

-- NOT PRINTED: function 18 (octroilaw15_lives)

-- NOT PRINTED: function 42 (people_People_Clone)

-- NOT PRINTED: function 142 (bits_Len32)

-- NOT PRINTED: function 143 (bits_Len64)

-- NOT PRINTED: function 110 (bits_Len)

-- NOT PRINTED: function 167 (cmp_isNaN_string)

-- NOT PRINTED: function 150 (cmp_Less_string)

-- NOT PRINTED: function 144 (slices_insertionSortOrdered_string)

-- NOT PRINTED: function 164 (slices_siftDownOrdered_string)

-- NOT PRINTED: function 145 (slices_heapSortOrdered_string)

-- NOT PRINTED: function 159 (slices_nextPowerOfTwo)

-- NOT PRINTED: function 160 (slices_xorshift_Next)

-- NOT PRINTED: function 146 (slices_breakPatternsOrdered_string)

-- NOT PRINTED: function 176 (slices_order2Ordered_string)

-- NOT PRINTED: function 166 (slices_medianOrdered_string)

-- NOT PRINTED: function 165 (slices_medianAdjacentOrdered_string)

-- NOT PRINTED: function 147 (slices_choosePivotOrdered_string)

-- NOT PRINTED: function 148 (slices_reverseRangeOrdered_string)

-- NOT PRINTED: function 149 (slices_partialInsertionSortOrdered_string)

-- NOT PRINTED: function 151 (slices_partitionEqualOrdered_string)

-- NOT PRINTED: function 152 (slices_partitionOrdered_string)

-- NOT PRINTED: function 113 (slices_pdqsortOrdered_string)

-- NOT PRINTED: function 82 (slices_Sort_string_string)

-- NOT PRINTED: function 43 (people_People_Known)

-- NOT PRINTED: function 44 (people_People_Opt)

-- NOT PRINTED: function 47 (people_People_Opted)

-- NOT PRINTED: function 50 (people_People_Home)

/-! ### octroilaw15_PeopleNobody: function 10 (by hand) -/
def octroilaw15_PeopleNobody.f (x0_0 : Int) (x0_1 x0_2 : ByteArray) (x0_3 x0_4 x0_5 : Int) : Option Bool := some true
theorem octroilaw15_PeopleNobody.calls (x0_0 : Int) (x0_1 x0_2 : ByteArray) (x0_3 x0_4 x0_5 : Int) (r : Bool) (w : World) (h : octroilaw15_PeopleNobody.f x0_0 x0_1 x0_2 x0_3 x0_4 x0_5 = some r) :
    Calls Try.prog 10 #[.agg #[.int .i64 x0_0, .string x0_1, .string x0_2, .int .i64 x0_3, .int .i64 x0_4, .int .i64 x0_5]] w fun e w' => e = .returned (.bool r) ∧ Below w.heap.size w w' := by
  obtain rfl := Option.some.inj h
  exact Pe.nobody_any x0_0 x0_1 x0_2 x0_3 x0_4 x0_5 w

end Go.Proofs.Ytbjoegladcmibaa.YPeopleNobody
