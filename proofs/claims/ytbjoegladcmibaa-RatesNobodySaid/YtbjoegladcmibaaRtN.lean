import Derived.Test.YtbjoegladcmibaaRt5
import Derived.Deep.DeepCutAuto
namespace Go.Proofs.Ytbjoegladcmibaa.Rt
set_option linter.unusedVariables false
set_option linter.unusedSimpArgs false
set_option linter.unnecessarySimpa false
open Go.RowKit Go.Maps Go.Proofs.YtbjoegladcmibaaK Go.Proofs.Ytbjoegladcmibaa.Ln Go.Proofs.Ytbjoegladcmibaa.LnI

/-- No rates: nil, or rates without a map. -/
def NoRt (w : World) (v : Value) : Prop := v = .pointer none ∨ ∃ g, v = .pointer (some ⟨g, 0, none⟩) ∧ w.heap[g]? = some (.cells #[.map none] 86 (0, 0))
theorem NoRt.below {w w' : World} {v : Value} (h : NoRt w v) (hb : Below w.heap.size w w') : NoRt w' v := by
  rcases h with h | ⟨g, e, h⟩
  · exact Or.inl h
  · exact Or.inr ⟨g, e, block_on hb h⟩
theorem none_no (w : World) (v : Value) (h : NoRt w v) : Calls Try.prog 52 #[v] w fun e w' => e = .returned (.bool true) ∧ w = w' := by
  rcases h with rfl | ⟨g, rfl, h⟩
  · go_enter Try.func52, Try.ntmps52
    go_wp2
    go_ret
    exact ⟨rfl, rfl⟩
  · have c0 := cells1 h
    have qT : ∀ (w : World) (r : Option Nat), (binOp .eql 84 (.map r) (.map none)).run Try.prog w = .ok (.bool r.isNone) w := fun w r => run_eql_map_nil w _ _ _ r Try.underlying84
    clear h
    go_enter Try.func52, Try.ntmps52
    go_wp2
    go_ret
    exact ⟨rfl, rfl⟩
theorem of_no (w : World) (v : Value) (h : NoRt w v) (s : ByteArray) (c d : Int) : Calls Try.prog 15 #[v, .string s, .int .i64 c, .int .i64 d] w fun e w' => e = .returned (.tuple #[.int .i64 0, .int .i64 1]) ∧ w = w' := by
  have H := Lib.hid h
  clear h
  go_enter Try.func15, Try.ntmps15
  go_wp2_with (go_at_call 52; refine (none_no _ _ H.out).mono ?_; rintro e w1 ⟨rfl, rfl⟩)
  go_ret2
  exact ⟨rfl, rfl⟩
theorem set_no (w : World) (v : Value) (h : NoRt w v) (s : ByteArray) (c f u x : Int) : Calls Try.prog 14 #[v, .string s, .int .i64 c, .agg #[.int .i64 f, .int .i64 u], .int .i64 x] w fun e w' => e = .returned (.int .i64 1) ∧ Below w.heap.size w w' := by
  have hb0 : Below w.heap.size w ((w.alloc (.cells #[v] 31)).alloc (.cells #[.int .i64 f, .int .i64 u] 36)) := s_alloc (s_alloc (Below.refl _ _) _) _
  rcases h with rfl | ⟨g, rfl, h⟩
  · have HB0 := Lib.hid hb0
    clear hb0
    go_enter Try.func14, Try.ntmps14
    go_wp2_with (go_at_call 52; refine (none_no _ (.pointer none) (Or.inl rfl)).mono ?_; rintro e w1 ⟨rfl, rfl⟩)
    go_ret
    exact ⟨rfl, HB0.out⟩
  · have H := Lib.hid (Or.inr ⟨g, rfl, h⟩ : NoRt w (.pointer (some ⟨g, 0, none⟩)))
    have HB0 := Lib.hid hb0
    clear hb0 h
    go_enter Try.func14, Try.ntmps14
    go_wp2_with (go_at_call 52; refine (none_no _ _ (NoRt.below H.out HB0.out)).mono ?_; rintro e w1 ⟨rfl, rfl⟩)
    go_ret
    exact ⟨rfl, HB0.out⟩
theorem len_no (w : World) (v : Value) (h : NoRt w v) : Calls Try.prog 36 #[v] w fun e w' => e = .returned (.int .i64 0) ∧ w = w' := by
  have H := Lib.hid h
  clear h
  go_enter Try.func36, Try.ntmps36
  go_wp2_with (go_at_call 52; refine (none_no _ _ H.out).mono ?_; rintro e w1 ⟨rfl, rfl⟩)
  go_ret
  exact ⟨rfl, rfl⟩
theorem states_no (w : World) (v : Value) (h : NoRt w v) : Calls Try.prog 40 #[v] w fun e w' => e = .returned (.slice none 0 0) ∧ w = w' := by
  have H := Lib.hid h
  clear h
  go_enter Try.func40, Try.ntmps40
  go_wp2_with (go_at_call 52; refine (none_no _ _ H.out).mono ?_; rintro e w1 ⟨rfl, rfl⟩)
  go_ret
  exact ⟨rfl, rfl⟩
theorem clone_no (w : World) : Calls Try.prog 35 #[.pointer none] w fun e w' => e = .returned (.pointer none) ∧ w = w' := by
  go_enter Try.func35, Try.ntmps35
  go_wp2
  go_ret
  exact ⟨rfl, rfl⟩
theorem cells3 {w : World} {g : Nat} {a0 a1 a2 : Value} {t : TypeId} (h : w.heap[g]? = some (.cells #[a0, a1, a2] t (0, 0))) : w.cell? ⟨g, 0, none⟩ = some a0 ∧ w.cell? ⟨g, 1, none⟩ = some a1 ∧ w.cell? ⟨g, 2, none⟩ = some a2 := by refine ⟨?_, ?_, ?_⟩ <;> simp [World.cell?, h]
set_option maxRecDepth 100000 in
set_option maxHeartbeats 4000000 in
theorem nobody_any (s : ByteArray) (c d : Int) (W : World) : Calls Try.prog 8 #[.agg #[.string s, .int .i64 c, .int .i64 d]] W fun e w' => e = .returned (.bool true) ∧ Below W.heap.size W w' := by
  by_cases h100 : 100 < s.size
  · have hb0 : Below W.heap.size W (W.alloc (.cells #[.string s, .int .i64 c, .int .i64 d] 28)) := s_alloc (Below.refl _ _) _
    go_enter Try.func8, Try.ntmps8
    go_wp2_with (go_at_call 12; refine (lives_any _).mono ?_; rintro e w5 ⟨rfl, h5⟩; have HB5 := Lib.hid (s_trans hb0 h5); clear h5)
    go_ret
    exact ⟨rfl, HB5.out⟩
  go_enter Try.func8, Try.ntmps8
  go_wp2_with (go_at_call 35; refine (clone_no _).mono ?_; rintro e w1 ⟨rfl, rfl⟩)
  have hb0 : Below W.heap.size W (((W.alloc (.cells #[.string s, .int .i64 c, .int .i64 d] 28)).alloc (.cells #[.map none] 86)).alloc (.cells #[.pointer none, .pointer (some ⟨W.heap.size + 1, 0, none⟩)] 31)) := s_alloc (s_alloc (s_alloc (Below.refl _ _) _) _) _
  go_loopw [21] (fun i wr => ∃ k : Nat, k ≤ 2 ∧ i = .int .i64 k ∧ Hid (Below W.heap.size W wr) ∧ Hid (wr.heap[W.heap.size]? = some (.cells #[.string s, .int .i64 c, .int .i64 d] 28 (0, 0))) ∧ Hid (wr.heap[W.heap.size + 1]? = some (.cells #[.map none] 86 (0, 0))) ∧ Hid (wr.heap[W.heap.size + 2]? = some (.cells #[.pointer none, .pointer (some ⟨W.heap.size + 1, 0, none⟩)] 31 (0, 0)))) (fun i _ => 2 - (intOf i).toNat)
  case atStart =>
    refine ⟨0, by omega, rfl, hb0, ?_, ?_, ?_⟩
    · exact block_alloc (block_alloc (Array.getElem?_push_size) _) _
    · have : (W.alloc (.cells #[.string s, .int .i64 c, .int .i64 d] 28)).heap.size = W.heap.size + 1 := by simp
      rw [← this]
      exact block_alloc (Array.getElem?_push_size) _
    · have : ((W.alloc (.cells #[.string s, .int .i64 c, .int .i64 d] 28)).alloc (.cells #[.map none] 86)).heap.size = W.heap.size + 2 := by simp
      rw [← this]
      exact Array.getElem?_push_size
  case round =>
    obtain ⟨k, hk, rfl, HB, HA, HG, HS⟩ := hrel
    obtain ⟨b0, b1⟩ := cells2 HS.out
    obtain ⟨a0, a1, a2⟩ := cells3 HA.out
    have hcase : k = 0 ∨ k = 1 ∨ k = 2 := by omega
    rcases hcase with rfl | rfl | rfl
    · -- nil
      have hN : NoRt wr (.pointer none) := Or.inl rfl
      have HN := Lib.hid hN
      clear hN
      go_wp2_with (first
        | (go_at_call 15; refine (of_no _ _ HN.out _ _ _).mono ?_; rintro e w1 ⟨rfl, rfl⟩)
        | (go_at_call 14; refine (set_no _ _ HN.out _ _ _ _ _).mono ?_; rintro e w2 ⟨rfl, h2⟩; have HB2 := Lib.hid h2; have HN2 := Lib.hid (HN.out.below h2); clear h2)
        | (go_at_call 36; refine (len_no _ _ HN2.out).mono ?_; rintro e w3 ⟨rfl, rfl⟩)
        | (go_at_call 40; refine (states_no _ _ HN2.out).mono ?_; rintro e w4 ⟨rfl, rfl⟩))
      go_roundw
      case rel => exact ⟨1, by omega, by go_num, s_trans HB.out HB2.out, block_on HB2.out HA.out, block_on HB2.out HG.out, block_on HB2.out HS.out⟩
      case measure => simp [intOf]
    · -- rates without a map
      have hN : NoRt wr (.pointer (some ⟨W.heap.size + 1, 0, none⟩)) := Or.inr ⟨_, rfl, HG.out⟩
      have HN := Lib.hid hN
      clear hN
      go_wp2_with (first
        | (go_at_call 15; refine (of_no _ _ HN.out _ _ _).mono ?_; rintro e w1 ⟨rfl, rfl⟩)
        | (go_at_call 14; refine (set_no _ _ HN.out _ _ _ _ _).mono ?_; rintro e w2 ⟨rfl, h2⟩; have HB2 := Lib.hid h2; have HN2 := Lib.hid (HN.out.below h2); clear h2)
        | (go_at_call 36; refine (len_no _ _ HN2.out).mono ?_; rintro e w3 ⟨rfl, rfl⟩)
        | (go_at_call 40; refine (states_no _ _ HN2.out).mono ?_; rintro e w4 ⟨rfl, rfl⟩))
      go_roundw
      case rel => exact ⟨2, by omega, by go_num, s_trans HB.out HB2.out, block_on HB2.out HA.out, block_on HB2.out HG.out, block_on HB2.out HS.out⟩
      case measure => simp [intOf]
    · go_wp2_with (go_at_call 12; refine (lives_any _).mono ?_; rintro e w5 ⟨rfl, h5⟩; have HB5 := Lib.hid h5; clear h5)
      go_ret
      exact ⟨rfl, s_trans HB.out HB5.out⟩
end Go.Proofs.Ytbjoegladcmibaa.Rt
