import Derived.Test.YtbjoegladcmibaaTha2
import Derived.Test.YtbjoegladcmibaaShelf
import Derived.Maps.RangeWalk
import Derived.Sort.OwnSortedInts
import Derived.Laws.AppendOwn
import Derived.Laws.OwnMore
import Derived.Lib.SmallJoins
import Derived.RegionTactic
namespace Go.Proofs.Ytbjoegladcmibaa.Thr
set_option linter.unusedVariables false
set_option linter.unusedSimpArgs false
set_option linter.unnecessarySimpa false
open Go.RowKit Go.Maps Go.Proofs.YtbjoegladcmibaaK Go.Proofs.Ytbjoegladcmibaa.Money

theorem clone_any (w : World) (g m n : Nat) (T : Int → Int) {K : Int → Bool} (h : Tot w g m n T K) : Calls Try.prog 25 #[.pointer (some ⟨g, 0, none⟩)] w fun e w' => ∃ g', e = .returned (.pointer (some ⟨g', 0, none⟩)) ∧ Tot w' g' w.heap.size n T K ∧ Below w.heap.size w w' ∧ w.heap.size < g' := by
  have c0 := cells1 h.box
  obtain ⟨D, ho, hi, hD⟩ := h.own
  have hc := Try.maps_Clone_int 3 (plainElem Try.prog 3) m n D w ho
  have HC := Lib.hid hc
  have HI := Lib.hid hi
  have HD := Lib.hid hD
  clear h hc ho hi hD
  go_enter Try.func25, Try.ntmps25
  go_wp2_with (go_at_call 69; refine HC.out.mono ?_; rintro e w1 ⟨rfl, ho1, ho2, hb⟩; have HO1 := Lib.hid ho1; have HB := Lib.hid hb; clear ho1 ho2 hb)
  go_ret
  have hlt := HO1.out.lt
  refine ⟨w1.heap.size, rfl, ⟨Array.getElem?_push_size, ⟨D, HO1.out.alloc _, HI.out, HD.out⟩, by omega⟩, s_alloc HB.out _, hlt⟩

/-! ### Years -/
theorem infoI : (Try.prog.info? 3).map (fun i => (i.zero, i.size, i.bytes)) = some (some (.int .i64 0), 1, 8) := by kernel_rfl
theorem size_le {w : World} {m n : Nat} {D : DataW Unit} (h : w.ownsMap Try.prog 3 (plainElem Try.prog 3) m n D) : size D ≤ n := by
  obtain ⟨es, clock, hb, F, hs, rfl⟩ := h
  show ((es.toList.map _).foldr DataW.insert []).length ≤ n
  rw [length_sorted]
  simpa using hs
end Go.Proofs.Ytbjoegladcmibaa.Thr
