/-
  octroiref13.Set, when it refuses: nothing is written (walked by hand: its printed contract gives its row away).
-/
import Derived.Test.YtbjoegladcmibaaQSpB4
import Derived.Test.YtbjoegladcmibaaQZPeopleSetsx8
import Derived.Test.YtbjoegladcmibaaQPe5
import Derived.Test.YtbjoegladcmibaaQWall
import Derived.RegionTactic
namespace Go.Proofs.Ytbjoegladcmibaa.Pe
set_option linter.unusedVariables false
set_option linter.unusedSimpArgs false
set_option linter.unnecessarySimpa false
open Go.RowKit Go.Maps Go.Proofs.YtbjoegladcmibaaK Go.Proofs.Ytbjoegladcmibaa.ZPeopleSets Go.Proofs.YtbjoegladcmibaaW.PrintWords Go.Proofs.YtbjoegladcmibaaW.PrintLast Go.Proofs.Ytbjoegladcmibaa.Vi Go.Proofs.Ytbjoegladcmibaa.Ln Go.Proofs.Ytbjoegladcmibaa.LnB Go.Proofs.Ytbjoegladcmibaa.Pl Go.Proofs.Ytbjoegladcmibaa.SpB

/-- What octroiref13.Set answers. -/
def r13E (O : List S24) (f u : Int) : Int := if rightB f u = true then (if O.any (fun r => decide (r.f0 ≤ u ∧ f ≤ r.f1)) = true then 50 else if 256 ≤ O.length then 31 else 0) else 30
theorem r13_eq {l : List Held} {O : List S24} (h : Rel l O) (f u : Int) : setE l f u = r13E O f u := by
  unfold setE r13E
  by_cases hr : rightB f u = true
  · rw [if_pos hr, if_pos hr, h.len]
    have hc : (clash l f u = true) ↔ (O.any (fun r => decide (r.f0 ≤ u ∧ f ≤ r.f1)) = true) := by
      rw [clash_iff h.srt hr, h.mem (fun a b => a ≤ u ∧ f ≤ b), List.any_eq_true]
      constructor
      · rintro ⟨r, hr, hp⟩; exact ⟨r, hr, decide_eq_true hp⟩
      · rintro ⟨r, hr, hp⟩; exact ⟨r, hr, of_decide_eq_true hp⟩
    simp only [hc]
  · rw [if_neg hr, if_neg hr]
set_option maxRecDepth 100000 in
set_option maxHeartbeats 4000000 in
theorem set_err (A : Option Addr) (c : Nat) (O : List S24) (f u x : Int) (w : World) (hr : Kd.C k24 w A O.length O) (hc : O.length ≤ c) (hO : O.length < 100000) (hE : r13E O f u ≠ 0) :
    Calls Try.prog 79 #[.slice A O.length c, .int .i64 256, .agg #[.int .i64 f, .int .i64 u, .int .i64 x]] w fun e w' => e = .returned (.tuple #[.slice A O.length c, .int .i64 (r13E O f u)]) ∧ Below w.heap.size w w' := by
  have hri := fun wx => octroiref13_Right.calls f u (rightB f u) wx (right_f13 f u)
  have hX : (w.alloc (.cells #[.int .i64 f, .int .i64 u, .int .i64 x] 24)).heap[w.heap.size]? = some (.cells #[.int .i64 f, .int .i64 u, .int .i64 x] 24 (0, 0)) := Array.getElem?_push_size
  have HX := Lib.hid hX
  have HR := Lib.hid hr
  have HRI := Lib.hid hri
  have HE := Lib.hid hE
  have hdef : r13E O f u = if rightB f u = true then (if O.any (fun r => decide (r.f0 ≤ u ∧ f ≤ r.f1)) = true then 50 else if 256 ≤ O.length then 31 else 0) else 30 := rfl
  rw [hdef] at HE ⊢
  clear hdef hr hri hX hE
  generalize rightB f u = R at *
  cases R
  · rw [if_neg (by decide)]
    go_enter Try.func79, Try.ntmps79
    go_wp2_with (go_at_call 112; refine (HRI.out _).mono ?_; rintro e w1 ⟨rfl, hb⟩; have HB := Lib.hid (s_trans (s_alloc (Below.refl _ _) _) hb.below); clear hb)
    go_ret2
    exact ⟨rfl, HB.out⟩
  · rw [if_pos rfl] at HE ⊢
    obtain ⟨E, hEq⟩ : ∃ E : Int, E = (if O.any (fun r => decide (r.f0 ≤ u ∧ f ≤ r.f1)) = true then 50 else if 256 ≤ O.length then 31 else 0) := ⟨_, rfl⟩
    rw [← hEq] at HE ⊢
    have HEQ := Lib.hid hEq
    clear hEq
    go_enter Try.func79, Try.ntmps79
    go_wp2_with (go_at_call 112; refine (HRI.out _).mono ?_; rintro e w1 ⟨rfl, hb⟩; have HB := Lib.hid (s_trans (s_alloc (Below.refl _ _) _) hb.below); have HX1 := Lib.hid (block_on hb.below HX.out); clear hb)
    go_loopw [8] (fun v wr => ∃ i : Nat, i ≤ O.length ∧ v = .int .i64 i ∧ Hid ((O.take i).any (fun r => decide (r.f0 ≤ u ∧ f ≤ r.f1)) = false) ∧ Hid (Below w.heap.size w wr) ∧ Hid (wr.heap[w.heap.size]? = some (.cells #[.int .i64 f, .int .i64 u, .int .i64 x] 24 (0, 0)))) (fun v _ => O.length - (intOf v).toNat)
    case atStart => exact ⟨0, Nat.zero_le _, rfl, Lib.hid (by simp), HB, HX1⟩
    case round =>
      obtain ⟨i, hi, rfl, HNO, HBr, HXr⟩ := hrel
      by_cases hin : i = O.length
      · subst hin
        have hno := HNO.out
        rw [List.take_length] at hno
        have heq := HEQ.out
        rw [hno, if_neg (by decide)] at heq
        by_cases h256 : 256 ≤ O.length
        · rw [if_pos h256] at heq
          subst heq
          clear hno HNO HE
          go_wp2
          go_ret2
          exact ⟨rfl, HBr.out⟩
        · rw [if_neg h256] at heq
          exact absurd heq HE.out
      · have hlt : i < O.length := by omega
        obtain ⟨ad0, e0, q0, q1, q2⟩ := at_T24 (Kd.C_below HR.out HBr.out) (i : Int) (by omega) (by omega)
        have hy : rd_T24 O (i : Int) = O[i] := by unfold rd_T24; rw [Int.toNat_natCast, List.getD_eq_getElem?_getD, List.getElem?_eq_getElem hlt]; rfl
        rw [hy] at q0 q1 q2
        rw [Int.toNat_natCast] at q0 q1 q2
        have hmem : O[i] ∈ O := List.getElem_mem hlt
        have htk : O.take (i + 1) = O.take i ++ [O[i]] := List.take_succ_eq_append_getElem hlt
        cases e0
        generalize O[i] = y at *
        clear hy
        obtain ⟨x0, x1, x2⟩ := cells3 HXr.out
        by_cases a1 : y.f0 ≤ u
        · by_cases a2 : f ≤ y.f1
          · have hany : O.any (fun r => decide (r.f0 ≤ u ∧ f ≤ r.f1)) = true := List.any_eq_true.2 ⟨y, hmem, decide_eq_true ⟨a1, a2⟩⟩
            have heq := HEQ.out
            rw [if_pos hany] at heq
            subst heq
            have d1 : decide (y.f0 ≤ u) = true := decide_eq_true a1
            have d2 : decide (f ≤ y.f1) = true := decide_eq_true a2
            clear hany htk hmem HE a1 a2
            go_wp2
            go_region
            all_goals
              go_wp2
              go_ret2
              exact ⟨rfl, s_drew HBr.out⟩
          · have hnx : (O.take (i + 1)).any (fun r => decide (r.f0 ≤ u ∧ f ≤ r.f1)) = false := by rw [htk, List.any_append, HNO.out]; simp [a2]
            have HNX := Lib.hid hnx
            have d1 : decide (y.f0 ≤ u) = true := decide_eq_true a1
            have d2 : decide (f ≤ y.f1) = false := decide_eq_false a2
            clear htk hmem hnx a1 a2
            go_wp2
            go_region
            all_goals
              go_wp2
              go_roundw
              case rel => exact ⟨i + 1, by omega, by first | rfl | simp, HNX, Lib.hid (s_drew HBr.out), HXr⟩
              case measure => simp [intOf]; omega
        · have hnx : (O.take (i + 1)).any (fun r => decide (r.f0 ≤ u ∧ f ≤ r.f1)) = false := by rw [htk, List.any_append, HNO.out]; simp [a1]
          have HNX := Lib.hid hnx
          have d1 : decide (y.f0 ≤ u) = false := decide_eq_false a1
          clear htk hmem hnx a1
          go_wp2
          go_region
          all_goals
            go_wp2
            go_roundw
            case rel => exact ⟨i + 1, by omega, by first | rfl | simp, HNX, Lib.hid (s_drew HBr.out), HXr⟩
            case measure => simp [intOf]; omega
end Go.Proofs.Ytbjoegladcmibaa.Pe
