-- WRITTEN BY wip/xprint.py (my own wrapper round the print, with contracts of my own in it)
import Derived.Test.YtbjoegladcmibaaQYPeopleSetsx0
namespace Go.Proofs.Ytbjoegladcmibaa.YPeopleSets
open Go.RowKit Go.Proofs.YtbjoegladcmibaaW.PrintWords Go.Proofs.YtbjoegladcmibaaW.PrintLast Go.Proofs.YtbjoegladcmibaaW.PrintMore
attribute [local go_sem] max2_int min2_int max_two min_two max_three min_three max_four min_four   -- for this text's walks alone
set_option linter.unusedVariables false
set_option linter.unusedSimpArgs false

-- NOT PRINTED: function 16 (octroilaw15_light)

-- NOT PRINTED: function 58 (octroiref07_Members)

-- NOT PRINTED: function 17 (octroiref07_Member)

-- NOT PRINTED: function 115 (slices_Index_string_string)

-- NOT PRINTED: function 87 (slices_Contains_string_string)

-- NOT PRINTED: function 88 (vatid_Members)

-- NOT PRINTED: function 53 (vatid_Member)

-- NOT PRINTED: function 94 (timeline_New_bool)

-- NOT PRINTED: function 59 (people_fresh)

-- NOT PRINTED: function 19 (people_New)

-- NOT PRINTED: function 60 (people_People_none)

-- NOT PRINTED: function 120 (vatid_letter)

-- NOT PRINTED: function 95 (vatid_Country)

-- NOT PRINTED: function 124 (vatid_digit)

-- NOT PRINTED: function 98 (vatid_stands)

-- NOT PRINTED: function 96 (vatid_fits)

-- NOT PRINTED: function 121 (vatid_forms)

-- NOT PRINTED: function 97 (vatid_Forms)

-- NOT PRINTED: function 61 (vatid_Right)

-- NOT PRINTED: function 20 (people_People_Status)

-- NOT PRINTED: function 63 (people_choice_holds)

-- NOT PRINTED: function 21 (people_People_Business)

-- NOT PRINTED: function 18 (octroilaw15_lives)

-- NOT PRINTED: function 39 (octroiref07_Same)

-- NOT PRINTED: function 42 (people_People_Clone)

-- NOT PRINTED: function 142 (bits_Len32)

-- NOT PRINTED: function 143 (bits_Len64)

-- NOT PRINTED: function 110 (bits_Len)

-- NOT PRINTED: function 167 (cmp_isNaN_string)

-- NOT PRINTED: function 150 (cmp_Less_string)

-- NOT PRINTED: function 144 (slices_insertionSortOrdered_string)

-- NOT PRINTED: function 164 (slices_siftDownOrdered_string)

-- NOT PRINTED: function 145 (slices_heapSortOrdered_string)

-- NOT PRINTED: function 159 (slices_nextPowerOfTwo)

-- NOT PRINTED: function 160 (slices_xorshift_Next)

-- NOT PRINTED: function 146 (slices_breakPatternsOrdered_string)

-- NOT PRINTED: function 176 (slices_order2Ordered_string)

-- NOT PRINTED: function 166 (slices_medianOrdered_string)

-- NOT PRINTED: function 165 (slices_medianAdjacentOrdered_string)

-- NOT PRINTED: function 147 (slices_choosePivotOrdered_string)

-- NOT PRINTED: function 148 (slices_reverseRangeOrdered_string)

-- NOT PRINTED: function 149 (slices_partialInsertionSortOrdered_string)

-- NOT PRINTED: function 151 (slices_partitionEqualOrdered_string)

-- NOT PRINTED: function 152 (slices_partitionOrdered_string)

-- NOT PRINTED: function 113 (slices_pdqsortOrdered_string)

-- NOT PRINTED: function 82 (slices_Sort_string_string)

-- NOT PRINTED: function 43 (people_People_Known)

-- NOT PRINTED: function 44 (people_People_Opt)

-- NOT PRINTED: function 112 (octroiref13_Right)

-- NOT PRINTED: function 79 (octroiref13_Set)

-- NOT PRINTED: function 45 (octroiref15_People_Choose)

-- NOT PRINTED: function 65 (octroiref07_Letter)

-- NOT PRINTED: function 64 (octroiref07_Country)

-- NOT PRINTED: function 66 (octroiref07_Digit)

-- NOT PRINTED: function 67 (octroiref07_Forms)

-- NOT PRINTED: function 68 (octroiref07_fits)

-- NOT PRINTED: function 22 (octroiref07_Right)

-- NOT PRINTED: function 86 (octroiref15_People_line)

-- NOT PRINTED: function 46 (octroiref15_People_Set)

-- NOT PRINTED: function 47 (people_People_Opted)

-- NOT PRINTED: function 81 (octroiref13_At)

-- NOT PRINTED: function 48 (octroiref15_People_Opted)

-- NOT PRINTED: function 49 (octroiref15_People_Business)

-- NOT PRINTED: function 50 (people_People_Home)

-- NOT PRINTED: function 51 (octroiref15_People_Known)

/-! ### octroilaw15_PeopleSets: function 9 (by hand) -/
def conv24 (x : S24) : ZPeopleSets.S24 := ⟨x.f0, x.f1, x.f2⟩
def conv42 (x : S42) : ZPeopleSets.S42 := ⟨x.f0, x.f1, x.f2, conv24 x.f3⟩
theorem conv42_C {w : World} {A : Option Addr} {l : List S42} (h : Kd.C k42 w A l.length l) : Kd.C ZPeopleSets.k42 w A (l.map conv42).length (l.map conv42) := by
  refine ⟨rfl, by rw [List.length_map]; exact h.2.1, fun hn => ?_⟩
  obtain ⟨ad, e, hc⟩ := h.2.2 (by rwa [List.length_map] at hn)
  refine ⟨ad, e, fun j p hp => ?_⟩
  rw [List.getElem?_map] at hp
  obtain ⟨q, hq, rfl⟩ := Option.map_eq_some_iff.1 hp
  obtain ⟨c, h1, h2, h3⟩ := hc j q hq
  refine ⟨c, h1, ?_, h3⟩
  rw [k42_open h2]
  exact ZPeopleSets.k42_mk w (conv42 q)
def octroilaw15_PeopleSets.Good (l0 : List S42) : Prop := (l0.length + 1) * 64 ≤ 140737488355328
open Classical in
noncomputable def octroilaw15_PeopleSets.f (a0 : ByteArray) (l1 : List S42) (x2_0 : Int) (x2_1 x2_2 : ByteArray) (x2_3 x2_4 x2_5 : Int) : Option Bool := if octroilaw15_PeopleSets.Good l1 then some true else none
theorem octroilaw15_PeopleSets.calls (a0 : ByteArray) (A1 : Option Addr) (c1 : Nat) (l1 : List S42) (x2_0 : Int) (x2_1 x2_2 : ByteArray) (x2_3 x2_4 x2_5 : Int) (r : Bool) (w : World) (hr1 : Kd.C k42 w A1 l1.length l1) (hc1 : l1.length ≤ c1) (h : octroilaw15_PeopleSets.f a0 l1 x2_0 x2_1 x2_2 x2_3 x2_4 x2_5 = some r) :
    Calls Try.prog 9 #[.string a0, .slice A1 l1.length c1, .agg #[.int .i64 x2_0, .string x2_1, .string x2_2, .int .i64 x2_3, .int .i64 x2_4, .int .i64 x2_5]] w fun e w' => e = .returned (.bool r) ∧ Below w.heap.size w w' := by
  unfold octroilaw15_PeopleSets.f at h
  by_cases hg : octroilaw15_PeopleSets.Good l1
  · rw [if_pos hg] at h
    obtain rfl := Option.some.inj h
    have hh := Pe.sets_any w a0 A1 c1 (l1.map conv42) x2_0 x2_1 x2_2 x2_3 x2_4 x2_5 (conv42_C hr1) (by rw [List.length_map]; exact hc1) (by rw [List.length_map]; exact hg)
    rw [List.length_map] at hh
    exact hh
  · rw [if_neg hg] at h
    cases h

end Go.Proofs.Ytbjoegladcmibaa.YPeopleSets
