import Derived.Test.YtbjoegladcmibaaQK2
import Derived.Test.YtbjoegladcmibaaQPRatesApartx1
import Derived.Deep.DeepCutAuto
import Derived.Laws.AppendOwn
import Derived.Laws.OwnMore
import Derived.Laws.Externs
import Derived.Lib.SmallJoins
namespace Go.Proofs.Ytbjoegladcmibaa.Ln
set_option linter.unusedVariables false
set_option linter.unusedSimpArgs false
set_option linter.unnecessarySimpa false
open Go.RowKit Go.Proofs.YtbjoegladcmibaaK Go.Proofs.Ytbjoegladcmibaa.PRatesApart Go.Proofs.YtbjoegladcmibaaW.PrintWords

/-! ### timeline: spans (out of the print) -/
def rightB (f u : Int) : Bool := decide (0 ≤ f ∧ u ≤ 2932896 ∧ f ≤ u)
def meetB (a b c d : Int) : Bool := rightB a b && rightB c d && rightB (if a < c then c else a) (if d < b then d else b)
theorem right_f (f u : Int) : timeline_Span_right.f f u = some (rightB f u) := by
  unfold timeline_Span_right.f rightB
  by_cases h1 : f ≥ 0
  · rw [if_pos h1]
    by_cases h2 : u ≤ 2932896
    · rw [if_pos h2]
      refine congrArg some ?_
      rw [Bool.eq_iff_iff, decide_eq_true_iff, decide_eq_true_iff]
      omega
    · rw [if_neg h2]
      exact congrArg some (decide_eq_false (fun h => h2 h.2.1)).symm
  · rw [if_neg h1]
    exact congrArg some (decide_eq_false (fun h => h1 h.1)).symm
theorem right_any (f u : Int) (w : World) : Calls Try.prog 90 #[.agg #[.int .i64 f, .int .i64 u]] w fun e w' => e = .returned (.bool (rightB f u)) ∧ Below w.heap.size w w' :=
  timeline_Span_right.calls f u _ w (right_f f u)
theorem meet_f (a b c d : Int) : ∃ f u, timeline_Meet.f 2 a b c d = some (f, u, meetB a b c d) := by
  unfold timeline_Meet.f meetB
  rw [right_f, right_f, Option.bind_some, Option.bind_some]
  by_cases h1 : rightB a b = true
  · rw [if_pos h1, h1]
    by_cases h2 : rightB c d = true
    · rw [h2]
      rw [timeline_Meet.j0, if_neg (by decide), right_f, Option.bind_some]
      show ∃ f u, (if rightB (mx a c) (mn b d) = true then _ else _) = some (f, u, rightB (mx a c) (mn b d))
      cases rightB (mx a c) (mn b d)
      · exact ⟨_, _, rfl⟩
      · exact ⟨_, _, rfl⟩
    · have h2 : rightB c d = false := by simpa using h2
      rw [h2]
      exact ⟨_, _, rfl⟩
  · rw [if_neg h1]
    have h1 : rightB a b = false := by simpa using h1
    rw [h1]
    exact ⟨_, _, rfl⟩
theorem meet_any (a b c d : Int) (w : World) : Calls Try.prog 92 #[.agg #[.int .i64 a, .int .i64 b], .agg #[.int .i64 c, .int .i64 d]] w fun e w' => ∃ f u : Int, e = .returned (.tuple #[.agg #[.int .i64 f, .int .i64 u], .bool (meetB a b c d)]) ∧ Below w.heap.size w w' := by
  obtain ⟨f, u, h⟩ := meet_f a b c d
  exact (timeline_Meet.calls 2 a b c d f u _ w h).mono fun e w' h => ⟨f, u, h⟩
/-! ### a member state -/
theorem index_ends (l : List ByteArray) (x : ByteArray) (hl : l.length < 1000) : ∀ (m i k : Nat), i + m = l.length → m + 1 ≤ k → ∃ r, slices_Index_string_string.l0 k l x (l.length : Int) (i : Int) = some r
  | 0, i, k, h1, h2 => by
    obtain ⟨k, rfl⟩ : ∃ q, k = q + 1 := ⟨k - 1, by omega⟩
    rw [slices_Index_string_string.l0, if_neg (by omega)]
    exact ⟨_, rfl⟩
  | m + 1, i, k, h1, h2 => by
    obtain ⟨k, rfl⟩ : ∃ q, k = q + 1 := ⟨k - 1, by omega⟩
    have hw : wrap64 ((i : Int) + 1) = ((i + 1 : Nat) : Int) := by unfold wrap64; omega
    rw [slices_Index_string_string.l0, if_pos (by omega), if_pos (by omega), if_pos (by omega), hw]
    split
    · exact ⟨_, rfl⟩
    · exact index_ends l x hl m (i + 1) k (by omega) (by omega)
def memB (c : ByteArray) : Bool := (vatid_Member.f 40 c).getD false
theorem member_f (c : ByteArray) : vatid_Member.f 40 c = some (memB c) := by
  have h : ∃ b, vatid_Member.f 40 c = some b := by
    obtain ⟨L, hL, hl⟩ : ∃ L, vatid_Members.f = some L ∧ L.length = 27 := ⟨_, rfl, rfl⟩
    unfold vatid_Member.f slices_Contains_string_string.f slices_Index_string_string.f
    rw [hL, Option.bind_some]
    obtain ⟨r, hr⟩ := index_ends L c (by omega) L.length 0 40 (Nat.zero_add _) (by omega)
    have hz : ((0 : Nat) : Int) = 0 := rfl
    rw [hz] at hr
    rw [hr]
    exact ⟨_, rfl⟩
  obtain ⟨b, hb⟩ := h
  unfold memB
  rw [hb]
  rfl
theorem member_any (c : ByteArray) (w : World) : Calls Try.prog 53 #[.string c] w fun e w' => e = .returned (.bool (memB c)) ∧ Below w.heap.size w w' :=
  vatid_Member.calls 40 c _ w (member_f c)
end Go.Proofs.Ytbjoegladcmibaa.Ln
