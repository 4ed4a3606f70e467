import Derived.Test.YtbjoegladcmibaaThrN
import Derived.Deep.DeepCutAuto
namespace Go.Proofs.Ytbjoegladcmibaa.Thr
set_option linter.unusedVariables false
set_option linter.unusedSimpArgs false
set_option linter.unnecessarySimpa false
open Go.RowKit Go.Maps Go.Proofs.YtbjoegladcmibaaK Go.Proofs.Ytbjoegladcmibaa.Money

set_option maxRecDepth 100000 in
set_option maxHeartbeats 4000000 in
theorem nobody_any (y a : Int) (o : Bool) (W : World) : Calls Try.prog 6 #[.int .i64 y, .int .i64 a, .bool o] W fun e w' => e = .returned (.bool true) ∧ Below W.heap.size W w' := by
  go_enter Try.func6, Try.ntmps6
  go_wp2_with (go_at_call 25; refine (clone_no _).mono ?_; rintro e w1 ⟨rfl, rfl⟩)
  have hb0 : Below W.heap.size W ((W.alloc (.cells #[.map none] 72)).alloc (.cells #[.pointer none, .pointer (some ⟨W.heap.size, 0, none⟩)] 54)) := s_alloc (s_alloc (Below.refl _ _) _) _
  go_loopw [20] (fun i wr => ∃ k : Nat, k ≤ 2 ∧ i = .int .i64 k ∧ Hid (Below W.heap.size W wr) ∧ Hid (wr.heap[W.heap.size]? = some (.cells #[.map none] 72 (0, 0))) ∧ Hid (wr.heap[W.heap.size + 1]? = some (.cells #[.pointer none, .pointer (some ⟨W.heap.size, 0, none⟩)] 54 (0, 0)))) (fun i _ => 2 - (intOf i).toNat)
  case atStart =>
    refine ⟨0, by omega, rfl, hb0, ?_, ?_⟩
    · exact block_alloc (Array.getElem?_push_size) _
    · have : (W.alloc (.cells #[.map none] 72)).heap.size = W.heap.size + 1 := by simp
      rw [← this]
      exact Array.getElem?_push_size
  case round =>
    obtain ⟨k, hk, rfl, HB, HG, HS⟩ := hrel
    obtain ⟨b0, b1⟩ := cells2 HS.out
    have hcase : k = 0 ∨ k = 1 ∨ k = 2 := by omega
    rcases hcase with rfl | rfl | rfl
    · -- nil
      have hN : NoTot wr (.pointer none) := Or.inl rfl
      have HN := Lib.hid hN
      clear hN
      go_wp2_with (first
        | (go_at_call 30; refine (over_no _ _ HN.out _ _ _).mono ?_; rintro e w1 ⟨rfl, h1⟩; have HB1 := Lib.hid h1; have HN1 := Lib.hid (HN.out.below h1); clear h1)
        | (go_at_call 26; refine (add_no _ _ HN1.out _ _).mono ?_; rintro e w2 ⟨rfl, h2⟩; have HB2 := Lib.hid h2; have HN2 := Lib.hid (HN1.out.below h2); clear h2)
        | (go_at_call 27; refine (of_no _ _ HN2.out _).mono ?_; rintro e w3 ⟨rfl, rfl⟩)
        | (go_at_call 33; refine (years_no _ _ HN2.out).mono ?_; rintro e w4 ⟨rfl, h4⟩; have HB4 := Lib.hid h4; clear h4))
      go_roundw
      case rel => exact ⟨1, by omega, by go_num, s_trans (s_trans (s_trans HB.out HB1.out) HB2.out) HB4.out, block_on HB4.out (block_on HB2.out (block_on HB1.out HG.out)), block_on HB4.out (block_on HB2.out (block_on HB1.out HS.out))⟩
      case measure => simp [intOf]
    · -- a total without a map
      have hN : NoTot wr (.pointer (some ⟨W.heap.size, 0, none⟩)) := Or.inr ⟨_, rfl, HG.out⟩
      have HN := Lib.hid hN
      clear hN
      go_wp2_with (first
        | (go_at_call 30; refine (over_no _ _ HN.out _ _ _).mono ?_; rintro e w1 ⟨rfl, h1⟩; have HB1 := Lib.hid h1; have HN1 := Lib.hid (HN.out.below h1); clear h1)
        | (go_at_call 26; refine (add_no _ _ HN1.out _ _).mono ?_; rintro e w2 ⟨rfl, h2⟩; have HB2 := Lib.hid h2; have HN2 := Lib.hid (HN1.out.below h2); clear h2)
        | (go_at_call 27; refine (of_no _ _ HN2.out _).mono ?_; rintro e w3 ⟨rfl, rfl⟩)
        | (go_at_call 33; refine (years_no _ _ HN2.out).mono ?_; rintro e w4 ⟨rfl, h4⟩; have HB4 := Lib.hid h4; clear h4))
      go_roundw
      case rel => exact ⟨2, by omega, by go_num, s_trans (s_trans (s_trans HB.out HB1.out) HB2.out) HB4.out, block_on HB4.out (block_on HB2.out (block_on HB1.out HG.out)), block_on HB4.out (block_on HB2.out (block_on HB1.out HS.out))⟩
      case measure => simp [intOf]
    · go_wp2_with (go_at_call 23; refine (lives_any _).mono ?_; rintro e w5 ⟨rfl, h5⟩; have HB5 := Lib.hid h5; clear h5)
      go_ret
      exact ⟨rfl, s_trans HB.out HB5.out⟩
end Go.Proofs.Ytbjoegladcmibaa.Thr
