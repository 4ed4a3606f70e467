-- WRITTEN BY wip/xprint.py (my own wrapper round the print, with contracts of my own in it)
import Derived.Test.YtbjoegladcmibaaQYRatesSetsx0
namespace Go.Proofs.Ytbjoegladcmibaa.YRatesSets
open Go.RowKit Go.Proofs.YtbjoegladcmibaaW.PrintWords Go.Proofs.YtbjoegladcmibaaW.PrintLast Go.Proofs.YtbjoegladcmibaaW.PrintMore
attribute [local go_sem] max2_int min2_int max_two min_two max_three min_three max_four min_four   -- for this text's walks alone
set_option linter.unusedVariables false
set_option linter.unusedSimpArgs false

-- NOT PRINTED: function 11 (octroilaw14_light)

-- NOT PRINTED: function 13 (rates_New)

-- NOT PRINTED: function 52 (rates_Rates_none)

-- NOT PRINTED: function 115 (slices_Index_string_string)

-- NOT PRINTED: function 87 (slices_Contains_string_string)

-- NOT PRINTED: function 88 (vatid_Members)

-- NOT PRINTED: function 53 (vatid_Member)

-- NOT PRINTED: function 89 (timeline_Line_int_none)

-- NOT PRINTED: function 90 (timeline_Span_right)

-- NOT PRINTED: function 116 (timeline_held_int_int)

-- NOT PRINTED: function 91 (timeline_Line_int_find)

-- NOT PRINTED: function 92 (timeline_Meet)

-- NOT PRINTED: function 118 (timeline_held_int_118)

-- NOT PRINTED: function 168 (timeline_held_int_168)

-- NOT PRINTED: function 153 (timeline_held_int_153)

-- NOT PRINTED: function 119 (timeline_held_int_119)

-- NOT PRINTED: function 93 (timeline_held_int_93)

-- NOT PRINTED: function 56 (timeline_Line_int_Set)

-- NOT PRINTED: function 14 (rates_Rates_Set)

-- NOT PRINTED: function 57 (timeline_Line_int_At)

-- NOT PRINTED: function 15 (rates_Rates_Of)

-- NOT PRINTED: function 12 (octroilaw14_lives)

-- NOT PRINTED: function 103 (maps_clone)

-- NOT PRINTED: function 76 (timeline_Line_int)

-- NOT PRINTED: function 111 (timeline_held_int_111)

-- NOT PRINTED: function 77 (timeline_Line_int_Clone)

-- NOT PRINTED: function 35 (rates_Rates_Clone)

-- NOT PRINTED: function 78 (timeline_Line_int_Len)

-- NOT PRINTED: function 36 (rates_Rates_Len)

-- NOT PRINTED: function 58 (octroiref07_Members)

-- NOT PRINTED: function 17 (octroiref07_Member)

-- NOT PRINTED: function 112 (octroiref13_Right)

-- NOT PRINTED: function 79 (octroiref13_Set)

-- NOT PRINTED: function 80 (octroiref14_line)

-- NOT PRINTED: function 37 (octroiref14_Set)

-- NOT PRINTED: function 81 (octroiref13_At)

-- NOT PRINTED: function 38 (octroiref14_Of)

-- NOT PRINTED: function 39 (octroiref07_Same)

-- NOT PRINTED: function 142 (bits_Len32)

-- NOT PRINTED: function 143 (bits_Len64)

-- NOT PRINTED: function 110 (bits_Len)

-- NOT PRINTED: function 167 (cmp_isNaN_string)

-- NOT PRINTED: function 150 (cmp_Less_string)

-- NOT PRINTED: function 144 (slices_insertionSortOrdered_string)

-- NOT PRINTED: function 164 (slices_siftDownOrdered_string)

-- NOT PRINTED: function 145 (slices_heapSortOrdered_string)

-- NOT PRINTED: function 159 (slices_nextPowerOfTwo)

-- NOT PRINTED: function 160 (slices_xorshift_Next)

-- NOT PRINTED: function 146 (slices_breakPatternsOrdered_string)

-- NOT PRINTED: function 176 (slices_order2Ordered_string)

-- NOT PRINTED: function 166 (slices_medianOrdered_string)

-- NOT PRINTED: function 165 (slices_medianAdjacentOrdered_string)

-- NOT PRINTED: function 147 (slices_choosePivotOrdered_string)

-- NOT PRINTED: function 148 (slices_reverseRangeOrdered_string)

-- NOT PRINTED: function 149 (slices_partialInsertionSortOrdered_string)

-- NOT PRINTED: function 151 (slices_partitionEqualOrdered_string)

-- NOT PRINTED: function 152 (slices_partitionOrdered_string)

-- NOT PRINTED: function 113 (slices_pdqsortOrdered_string)

-- NOT PRINTED: function 82 (slices_Sort_string_string)

-- NOT PRINTED: function 83 (slices_Compact_string_string)

-- NOT PRINTED: function 40 (rates_Rates_States)

-- NOT PRINTED: function 41 (octroiref14_States)

/-! ### octroilaw14_RatesSets: function 7 (by hand) -/
def conv26 (x : S26) : VRatesSets.S26 := ⟨x.f0, x.f1, ⟨x.f2.f0, x.f2.f1, x.f2.f2⟩⟩
theorem conv26_C {w : World} {A : Option Addr} {l : List S26} (h : Kd.C k26 w A l.length l) : Kd.C VRatesSets.k26 w A (l.map conv26).length (l.map conv26) := by
  refine ⟨rfl, by rw [List.length_map]; exact h.2.1, fun hn => ?_⟩
  obtain ⟨ad, e, hc⟩ := h.2.2 (by rwa [List.length_map] at hn)
  refine ⟨ad, e, fun j p hp => ?_⟩
  rw [List.getElem?_map] at hp
  obtain ⟨q, hq, rfl⟩ := Option.map_eq_some_iff.1 hp
  obtain ⟨c, h1, h2, h3⟩ := hc j q hq
  refine ⟨c, h1, ?_, h3⟩
  rw [k26_open h2]
  exact VRatesSets.k26_mk w (conv26 q)
def octroilaw14_RatesSets.Good (l0 : List S26) (x2_0 : ByteArray) (x2_1 : Int) : Prop :=
  l0.length < 9223372036854775807 ∧ (∀ y ∈ l0, y.f0.size ≤ maxLen ∧ (Lit.int .i64 y.f1).wf = true) ∧ x2_0.size ≤ maxLen ∧ (Lit.int .i64 x2_1).wf = true
open Classical in
noncomputable def octroilaw14_RatesSets.f (l0 : List S26) (x2_0 : ByteArray) (x2_1 x2_2 : Int) : Option Bool := if octroilaw14_RatesSets.Good l0 x2_0 x2_1 then some true else none
theorem octroilaw14_RatesSets.calls (A0 : Option Addr) (c0 : Nat) (l0 : List S26) (x2_0 : ByteArray) (x2_1 x2_2 : Int) (r : Bool) (w : World) (hr0 : Kd.C k26 w A0 l0.length l0) (hc0 : l0.length ≤ c0) (h : octroilaw14_RatesSets.f l0 x2_0 x2_1 x2_2 = some r) :
    Calls Try.prog 7 #[.slice A0 l0.length c0, .agg #[.string x2_0, .int .i64 x2_1, .int .i64 x2_2]] w fun e w' => e = .returned (.bool r) ∧ Below w.heap.size w w' := by
  unfold octroilaw14_RatesSets.f at h
  by_cases hg : octroilaw14_RatesSets.Good l0 x2_0 x2_1
  · rw [if_pos hg] at h
    obtain rfl := Option.some.inj h
    obtain ⟨g1, g2, g5, g6⟩ := hg
    have hh := Rt.sets_any w A0 c0 (l0.map conv26) x2_0 x2_1 x2_2 (conv26_C hr0) (by rw [List.length_map]; exact hc0) (by rw [List.length_map]; exact g1) (fun y hy => by
      obtain ⟨z, hz, rfl⟩ := List.mem_map.1 hy
      exact g2 z hz) g5 g6
    rw [List.length_map] at hh
    exact hh
  · rw [if_neg hg] at h
    cases h

end Go.Proofs.Ytbjoegladcmibaa.YRatesSets
