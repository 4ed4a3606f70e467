/-
  PeopleNobody: the walk of the law.
-/
import Derived.Test.YtbjoegladcmibaaPe6
import Derived.Deep.DeepCutAuto
namespace Go.Proofs.Ytbjoegladcmibaa.Pe
set_option linter.unusedVariables false
set_option linter.unusedSimpArgs false
set_option linter.unnecessarySimpa false
open Go.RowKit Go.Maps Go.Proofs.YtbjoegladcmibaaK Go.Proofs.Ytbjoegladcmibaa.ZPeopleSets Go.Proofs.YtbjoegladcmibaaW.PrintWords Go.Proofs.YtbjoegladcmibaaW.PrintLast Go.Proofs.Ytbjoegladcmibaa.Vi Go.Proofs.Ytbjoegladcmibaa.Ln

theorem home_no (w : World) (p : Value) (h : NoPp w p) : Calls Try.prog 50 #[p] w fun e w' => e = .returned (.string ⟨#[]⟩) ∧ w = w' := by
  have H := Lib.hid h
  clear h
  go_enter Try.func50, Try.ntmps50
  go_wp2_with (go_at_call 60; refine (none_no _ _ H.out).mono ?_; rintro e w1 ⟨rfl, rfl⟩)
  go_ret
  exact ⟨rfl, rfl⟩
theorem opt_no (w : World) (p : Value) (h : NoPp w p) (f u : Int) : Calls Try.prog 44 #[p, .agg #[.int .i64 f, .int .i64 u]] w fun e w' => e = .returned (.int .i64 1) ∧ Below w.heap.size w w' := by
  have H := Lib.hid h
  clear h
  go_enter Try.func44, Try.ntmps44
  go_wp2_with (go_at_call 60; refine (none_no _ _ (H.out.below (s_alloc (Below.refl _ _) _))).mono ?_; rintro e w1 ⟨rfl, rfl⟩)
  go_ret
  exact ⟨rfl, s_alloc (Below.refl _ _) _⟩
theorem opted_no (w : World) (p : Value) (h : NoPp w p) (d : Int) : Calls Try.prog 47 #[p, .int .i64 d] w fun e w' => e = .returned (.bool false) ∧ w = w' := by
  have H := Lib.hid h
  clear h
  go_enter Try.func47, Try.ntmps47
  go_wp2_with (go_at_call 60; refine (none_no _ _ H.out).mono ?_; rintro e w1 ⟨rfl, rfl⟩)
  go_ret
  exact ⟨rfl, rfl⟩
theorem status_no (w : World) (p : Value) (h : NoPp w p) (c n : ByteArray) (f u : Int) : Calls Try.prog 20 #[p, .string c, .string n, .agg #[.int .i64 f, .int .i64 u]] w fun e w' => e = .returned (.int .i64 1) ∧ Below w.heap.size w w' := by
  have H := Lib.hid h
  clear h
  go_enter Try.func20, Try.ntmps20
  go_wp2_with (go_at_call 60; refine (none_no _ _ (H.out.below (s_alloc (Below.refl _ _) _))).mono ?_; rintro e w1 ⟨rfl, rfl⟩)
  go_ret
  exact ⟨rfl, s_alloc (Below.refl _ _) _⟩
theorem biz_no (w : World) (p : Value) (h : NoPp w p) (c n : ByteArray) (d : Int) : Calls Try.prog 21 #[p, .string c, .string n, .int .i64 d] w fun e w' => e = .returned (.bool false) ∧ w = w' := by
  have H := Lib.hid h
  clear h
  go_enter Try.func21, Try.ntmps21
  go_wp2_with (go_at_call 60; refine (none_no _ _ H.out).mono ?_; rintro e w1 ⟨rfl, rfl⟩)
  go_ret
  exact ⟨rfl, rfl⟩
theorem known_no (w : World) (p : Value) (h : NoPp w p) : Calls Try.prog 43 #[p] w fun e w' => e = .returned (.slice none 0 0) ∧ w = w' := by
  have H := Lib.hid h
  clear h
  go_enter Try.func43, Try.ntmps43
  go_wp2_with (go_at_call 60; refine (none_no _ _ H.out).mono ?_; rintro e w1 ⟨rfl, rfl⟩)
  go_ret
  exact ⟨rfl, rfl⟩
theorem clone_no (w : World) : Calls Try.prog 42 #[.pointer none] w fun e w' => e = .returned (.pointer none) ∧ w = w' := by
  go_enter Try.func42, Try.ntmps42
  go_wp2
  go_ret
  exact ⟨rfl, rfl⟩
set_option maxRecDepth 100000 in
set_option maxHeartbeats 4000000 in
theorem nobody_any (xk : Int) (xc xn : ByteArray) (xf xu xx : Int) (W : World) : Calls Try.prog 10 #[.agg #[.int .i64 xk, .string xc, .string xn, .int .i64 xf, .int .i64 xu, .int .i64 xx]] W fun e w' => e = .returned (.bool true) ∧ Below W.heap.size W w' := by
  have hli := fun wx => light_any wx none 0 [] xk xc xn xf xu xx ⟨rfl, by decide, fun h => absurd h (by decide)⟩ (Nat.le_refl _) (by decide)
  have hB0 : Below W.heap.size W (W.alloc (.cells #[.int .i64 xk, .string xc, .string xn, .int .i64 xf, .int .i64 xu, .int .i64 xx] 42)) := s_alloc (Below.refl _ _) _
  have hX0 : (W.alloc (.cells #[.int .i64 xk, .string xc, .string xn, .int .i64 xf, .int .i64 xu, .int .i64 xx] 42)).heap[W.heap.size]? = some (.cells #[.int .i64 xk, .string xc, .string xn, .int .i64 xf, .int .i64 xu, .int .i64 xx] 42 (0, 0)) := Array.getElem?_push_size
  have HB0 := Lib.hid hB0
  have HX0 := Lib.hid hX0
  clear hB0 hX0
  generalize lightB [] ⟨xk, xc, xn, ⟨xf, xu, xx⟩⟩ = LB at *
  have HLI := Lib.hid hli
  clear hli
  cases LB
  · go_enter Try.func10, Try.ntmps10
    go_wp2_with (first
      | (go_at_call 16; refine (HLI.out _).mono ?_; rintro e w1 ⟨rfl, hb⟩; have HB1 := Lib.hid (s_trans HB0.out hb); clear hb)
      | (go_at_call 18; refine (lives_any _).mono ?_; rintro e w7 ⟨rfl, hb⟩; have HB7 := Lib.hid (s_trans HB1.out hb); clear hb))
    go_ret
    exact ⟨rfl, HB7.out⟩
  · go_enter Try.func10, Try.ntmps10
    go_wp2_with (first
      | (go_at_call 16; refine (HLI.out _).mono ?_; rintro e w1 ⟨rfl, hb⟩; have HB1 := Lib.hid (s_trans HB0.out hb); have HX1 := Lib.hid (block_on hb HX0.out); clear hb)
      | (go_at_call 42; refine (clone_no _).mono ?_; rintro e w2 ⟨rfl, rfl⟩))
    have es : (w1.alloc (.cells #[.pointer none, .string ⟨#[]⟩, .map none] 105)).heap.size = w1.heap.size + 1 := by simp
    have hb2 : Below W.heap.size W ((w1.alloc (.cells #[.pointer none, .string ⟨#[]⟩, .map none] 105)).alloc (.cells #[.pointer none, .pointer (some ⟨w1.heap.size, 0, none⟩)] 45)) := s_alloc (s_alloc HB1.out _) _
    go_loopw [18] (fun i wr => ∃ k : Nat, k ≤ 2 ∧ i = .int .i64 k ∧ Hid (Below W.heap.size W wr) ∧ Hid (wr.heap[W.heap.size]? = some (.cells #[.int .i64 xk, .string xc, .string xn, .int .i64 xf, .int .i64 xu, .int .i64 xx] 42 (0, 0))) ∧ Hid (wr.heap[w1.heap.size]? = some (.cells #[.pointer none, .string ⟨#[]⟩, .map none] 105 (0, 0))) ∧ Hid (wr.heap[w1.heap.size + 1]? = some (.cells #[.pointer none, .pointer (some ⟨w1.heap.size, 0, none⟩)] 45 (0, 0)))) (fun i _ => 2 - (intOf i).toNat)
    case atStart =>
      refine ⟨0, by omega, rfl, hb2, block_alloc (block_alloc HX1.out _) _, block_alloc Array.getElem?_push_size _, ?_⟩
      rw [← es]
      exact Array.getElem?_push_size
    case round =>
      obtain ⟨k, hk, rfl, HB, HA, HG, HS⟩ := hrel
      obtain ⟨b0, b1⟩ := cells2 HS.out
      obtain ⟨a0, a1, a2, a3, a4, a5⟩ := cells6 HA.out
      have hcase : k = 0 ∨ k = 1 ∨ k = 2 := by omega
      rcases hcase with rfl | rfl | rfl
      · have hN : NoPp wr (.pointer none) := Or.inl rfl
        have HN := Lib.hid hN
        clear hN
        go_wp2_with (first
          | (go_at_call 50; refine (home_no _ _ HN.out).mono ?_; rintro e w2 ⟨rfl, rfl⟩)
          | (go_at_call 44; refine (opt_no _ _ HN.out _ _).mono ?_; rintro e w3 ⟨rfl, h3⟩; have HB3 := Lib.hid h3; have HN3 := Lib.hid (HN.out.below h3); obtain ⟨a0, a1, a2, a3, a4, a5⟩ := cells6 (block_on h3 HA.out); clear h3)
          | (go_at_call 47; refine (opted_no _ _ HN3.out _).mono ?_; rintro e w4 ⟨rfl, rfl⟩)
          | (go_at_call 20; refine (status_no _ _ HN3.out _ _ _ _).mono ?_; rintro e w5 ⟨rfl, h5⟩; have HB5 := Lib.hid (s_trans HB3.out h5); have HN5 := Lib.hid (HN3.out.below h5); obtain ⟨a0, a1, a2, a3, a4, a5⟩ := cells6 (block_on HB5.out HA.out); clear h5)
          | (go_at_call 21; refine (biz_no _ _ HN5.out _ _ _).mono ?_; rintro e w6 ⟨rfl, rfl⟩)
          | (go_at_call 43; refine (known_no _ _ HN5.out).mono ?_; rintro e w7 ⟨rfl, rfl⟩))
        go_roundw
        case rel => exact ⟨1, by omega, by go_num, s_trans HB.out HB5.out, block_on HB5.out HA.out, block_on HB5.out HG.out, block_on HB5.out HS.out⟩
        case measure => simp [intOf]
      · have hN : NoPp wr (.pointer (some ⟨w1.heap.size, 0, none⟩)) := Or.inr ⟨_, rfl, HG.out⟩
        have HN := Lib.hid hN
        clear hN
        go_wp2_with (first
          | (go_at_call 50; refine (home_no _ _ HN.out).mono ?_; rintro e w2 ⟨rfl, rfl⟩)
          | (go_at_call 44; refine (opt_no _ _ HN.out _ _).mono ?_; rintro e w3 ⟨rfl, h3⟩; have HB3 := Lib.hid h3; have HN3 := Lib.hid (HN.out.below h3); obtain ⟨a0, a1, a2, a3, a4, a5⟩ := cells6 (block_on h3 HA.out); clear h3)
          | (go_at_call 47; refine (opted_no _ _ HN3.out _).mono ?_; rintro e w4 ⟨rfl, rfl⟩)
          | (go_at_call 20; refine (status_no _ _ HN3.out _ _ _ _).mono ?_; rintro e w5 ⟨rfl, h5⟩; have HB5 := Lib.hid (s_trans HB3.out h5); have HN5 := Lib.hid (HN3.out.below h5); obtain ⟨a0, a1, a2, a3, a4, a5⟩ := cells6 (block_on HB5.out HA.out); clear h5)
          | (go_at_call 21; refine (biz_no _ _ HN5.out _ _ _).mono ?_; rintro e w6 ⟨rfl, rfl⟩)
          | (go_at_call 43; refine (known_no _ _ HN5.out).mono ?_; rintro e w7 ⟨rfl, rfl⟩))
        go_roundw
        case rel => exact ⟨2, by omega, by go_num, s_trans HB.out HB5.out, block_on HB5.out HA.out, block_on HB5.out HG.out, block_on HB5.out HS.out⟩
        case measure => simp [intOf]
      · go_wp2_with (go_at_call 18; refine (lives_any _).mono ?_; rintro e w5 ⟨rfl, h5⟩; have HB5 := Lib.hid h5; clear h5)
        go_ret
        exact ⟨rfl, s_trans HB.out HB5.out⟩
end Go.Proofs.Ytbjoegladcmibaa.Pe
