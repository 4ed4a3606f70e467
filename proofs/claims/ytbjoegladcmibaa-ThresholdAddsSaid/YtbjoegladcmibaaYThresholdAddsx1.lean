-- WRITTEN BY wip/xprint.py (my own wrapper round the print, with contracts of my own in it)
import Derived.Test.YtbjoegladcmibaaYThresholdAddsx0
namespace Go.Proofs.Ytbjoegladcmibaa.YThresholdAdds
open Go.RowKit Go.Proofs.YtbjoegladcmibaaW.PrintWords Go.Proofs.YtbjoegladcmibaaW.PrintLast Go.Proofs.YtbjoegladcmibaaW.PrintMore
attribute [local go_sem] max2_int min2_int max_two min_two max_three min_three max_four min_four   -- for this text's walks alone
set_option linter.unusedVariables false
set_option linter.unusedSimpArgs false

-- NOT PRINTED: function 24 (threshold_New)

-- NOT PRINTED: function 71 (threshold_Total_none)

-- NOT PRINTED: function 171 (money_May)

-- NOT PRINTED: function 177 (bits_Add64)

-- NOT PRINTED: function 172 (money_wide_plus)

-- NOT PRINTED: function 173 (money_of)

-- NOT PRINTED: function 174 (money_wide_told)

-- NOT PRINTED: function 156 (money_Sum)

-- NOT PRINTED: function 129 (money_Total)

-- NOT PRINTED: function 104 (money_Add)

-- NOT PRINTED: function 70 (threshold_Total_with)

-- NOT PRINTED: function 26 (threshold_Total_Add)

-- NOT PRINTED: function 27 (threshold_Total_Of)

-- NOT PRINTED: function 30 (threshold_Total_Over)

-- NOT PRINTED: function 23 (octroilaw19_lives)

-- NOT PRINTED: function 103 (maps_clone)

-- NOT PRINTED: function 69 (maps_Clone_map_int_int_int_int)

-- NOT PRINTED: function 25 (threshold_Total_Clone)

-- NOT PRINTED: function 105 (octroiref01_May)

-- NOT PRINTED: function 130 (octroiref01_plus)

-- NOT PRINTED: function 131 (octroiref01_cmp)

-- NOT PRINTED: function 157 (octroiref01_clean)

-- NOT PRINTED: function 132 (octroiref01_minus)

-- NOT PRINTED: function 106 (octroiref01_Add)

-- NOT PRINTED: function 107 (octroiref01_Of)

-- NOT PRINTED: function 108 (octroiref01_Int)

-- NOT PRINTED: function 72 (octroiref01_Sum)

-- NOT PRINTED: function 28 (octroiref19_Of)

-- NOT PRINTED: function 73 (octroiref19_wrong)

-- NOT PRINTED: function 29 (octroiref19_Add)

-- NOT PRINTED: function 31 (octroiref19_Over)

-- NOT PRINTED: function 32 (octroiref03_Same)

-- NOT PRINTED: function 163 (cmp_isNaN_int)

-- NOT PRINTED: function 139 (cmp_Less_int)

-- NOT PRINTED: function 133 (slices_insertionSortOrdered_int)

-- NOT PRINTED: function 158 (slices_siftDownOrdered_int)

-- NOT PRINTED: function 134 (slices_heapSortOrdered_int)

-- NOT PRINTED: function 142 (bits_Len32)

-- NOT PRINTED: function 143 (bits_Len64)

-- NOT PRINTED: function 110 (bits_Len)

-- NOT PRINTED: function 159 (slices_nextPowerOfTwo)

-- NOT PRINTED: function 160 (slices_xorshift_Next)

-- NOT PRINTED: function 135 (slices_breakPatternsOrdered_int)

-- NOT PRINTED: function 175 (slices_order2Ordered_int)

-- NOT PRINTED: function 162 (slices_medianOrdered_int)

-- NOT PRINTED: function 161 (slices_medianAdjacentOrdered_int)

-- NOT PRINTED: function 136 (slices_choosePivotOrdered_int)

-- NOT PRINTED: function 137 (slices_reverseRangeOrdered_int)

-- NOT PRINTED: function 138 (slices_partialInsertionSortOrdered_int)

-- NOT PRINTED: function 140 (slices_partitionEqualOrdered_int)

-- NOT PRINTED: function 141 (slices_partitionOrdered_int)

-- NOT PRINTED: function 109 (slices_pdqsortOrdered_int)

-- NOT PRINTED: function 75 (slices_Sort_int_int)

-- NOT PRINTED: function 33 (threshold_Total_Years)

-- NOT PRINTED: function 34 (octroiref19_Years)

/-! ### octroilaw19_ThresholdAdds: function 5 (by hand) -/
def conv53 (x : S53) : XThresholdAdds.S53 := ⟨x.f0, x.f1⟩
theorem conv53_C {w : World} {A : Option Addr} {l : List S53} (h : Kd.C k53 w A l.length l) : Kd.C XThresholdAdds.k53 w A (l.map conv53).length (l.map conv53) := by
  refine ⟨rfl, by rw [List.length_map]; exact h.2.1, fun hn => ?_⟩
  obtain ⟨ad, e, hc⟩ := h.2.2 (by rwa [List.length_map] at hn)
  refine ⟨ad, e, fun j p hp => ?_⟩
  rw [List.getElem?_map] at hp
  obtain ⟨q, hq, rfl⟩ := Option.map_eq_some_iff.1 hp
  obtain ⟨c, h1, h2, h3⟩ := hc j q hq
  refine ⟨c, h1, ?_, h3⟩
  rw [k53_open h2]
  exact XThresholdAdds.k53_mk w (conv53 q)
def octroilaw19_ThresholdAdds.Good (l0 : List S53) (x1_0 : Int) : Prop := l0.length ≤ 9223372036854775807 ∧ (∀ y ∈ l0, (Lit.int .i64 y.f0).wf = true) ∧ (Lit.int .i64 x1_0).wf = true
open Classical in
noncomputable def octroilaw19_ThresholdAdds.f (l0 : List S53) (x1_0 x1_1 : Int) (a2 : Bool) : Option Bool := if octroilaw19_ThresholdAdds.Good l0 x1_0 then some true else none
theorem octroilaw19_ThresholdAdds.calls (A0 : Option Addr) (c0 : Nat) (l0 : List S53) (x1_0 x1_1 : Int) (a2 : Bool) (r : Bool) (w : World) (hr0 : Kd.C k53 w A0 l0.length l0) (hc0 : l0.length ≤ c0) (h : octroilaw19_ThresholdAdds.f l0 x1_0 x1_1 a2 = some r) :
    Calls Try.prog 5 #[.slice A0 l0.length c0, .agg #[.int .i64 x1_0, .int .i64 x1_1], .bool a2] w fun e w' => e = .returned (.bool r) ∧ Below w.heap.size w w' := by
  unfold octroilaw19_ThresholdAdds.f at h
  by_cases hg : octroilaw19_ThresholdAdds.Good l0 x1_0
  · rw [if_pos hg] at h
    obtain rfl := Option.some.inj h
    obtain ⟨g1, g2, g3⟩ := hg
    have hh := ThA.adds_any w A0 c0 (l0.map conv53) x1_0 x1_1 a2 (conv53_C hr0) (by rw [List.length_map]; exact hc0) (by rw [List.length_map]; exact g1) (fun y hy => by
      obtain ⟨z, hz, rfl⟩ := List.mem_map.1 hy
      exact g2 z hz) g3
    rw [List.length_map] at hh
    exact hh
  · rw [if_neg hg] at h
    cases h

end Go.Proofs.Ytbjoegladcmibaa.YThresholdAdds
