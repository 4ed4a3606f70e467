/-
  CheckerNobody: the law's walk.
-/
import Derived.Test.YtepddfkdjdklnaaQCh31
namespace Go.Proofs.Ytepddfkdjdklnaa.Ch
set_option linter.unusedVariables false
set_option linter.unusedSimpArgs false
set_option linter.unnecessarySimpa false
open Go.RowKit Go.Maps Go.Proofs.YtepddfkdjdklnaaK Go.Proofs.Ytepddfkdjdklnaa.PCheckerOrder Go.Proofs.YtepddfkdjdklnaaW.PrintWords Go.Proofs.YtepddfkdjdklnaaW.PrintLast Go.Sort

abbrev zPlan : Array Value := #[.slice none 0 0, .map none, .slice none 0 0, .slice none 0 0]
theorem Nob.below {w w1 : World} {p : Option Addr} (h : Nob w p) (hb : Below w.heap.size w w1) : Nob w1 p := by
  rcases h with rfl | ⟨b, rfl, h1⟩
  · exact .inl rfl
  · exact .inr ⟨b, rfl, (hb.cell (p := ⟨b, 1, none⟩) (World.block_lt_of_cell? w _ h1)).trans h1⟩
/-- The two plans, in a row. -/
structure Two (w : World) (g b : Nat) : Prop where
  row : w.heap[g]? = some (.cells #[.pointer none, .pointer (some ⟨b, 0, none⟩)] 25 (0, 0))
  two : Nob w (some ⟨b, 0, none⟩)
theorem Two.below {w w1 : World} {g b : Nat} (h : Two w g b) (hb : Below w.heap.size w w1) : Two w1 g b := ⟨block_on hb h.row, h.two.below hb⟩
theorem two_at {w : World} {g b : Nat} (h : Two w g b) (k : Nat) (hk : k < 2) : ∃ p, w.cell? ⟨g, k, none⟩ = some (.pointer p) ∧ Nob w p := by
  rw [block_cell h.row]
  match k, hk with
  | 0, _ => exact ⟨none, rfl, .inl rfl⟩
  | 1, _ => exact ⟨_, rfl, h.two⟩
set_option maxRecDepth 100000 in
set_option maxHeartbeats 4000000 in
theorem nobody_any (i : Int) (w : World) : Calls Try.prog 4 #[.int .i64 i] w fun e w' => e = .returned (.bool true) ∧ Below w.heap.size w w' := by
  go_enter Try.func4, Try.ntmps4
  go_upto_region 2 with fail
  go_wp2
  have hT : Two ((w.alloc (.cells zPlan 36)).alloc (.cells #[.pointer none, .pointer (some ⟨w.heap.size, 0, none⟩)] 25)) (w.heap.size + 1) w.heap.size := by
    have h0 : (w.alloc (.cells zPlan 36)).heap[w.heap.size]? = some (.cells zPlan 36 (0, 0)) := Array.getElem?_push_size
    have hz : (w.alloc (.cells zPlan 36)).heap.size = w.heap.size + 1 := by simp
    refine ⟨?_, .inr ⟨_, rfl, ?_⟩⟩
    · rw [← hz]; exact Array.getElem?_push_size
    · rw [block_cell (block_alloc h0 _)]; rfl
  have hB : Below w.heap.size w ((w.alloc (.cells zPlan 36)).alloc (.cells #[.pointer none, .pointer (some ⟨w.heap.size, 0, none⟩)] 25)) := s_alloc (s_alloc (Below.refl _ _) _) _
  have HT := Lib.hid hT
  have HB := Lib.hid hB
  clear hT hB
  go_loopw [15] (fun v wr => ∃ k : Nat, k ≤ 2 ∧ v = .int .i64 k ∧ Hid (Two wr (w.heap.size + 1) w.heap.size) ∧ Hid (Below w.heap.size w wr)) (fun v _ => 2 - (intOf v).toNat)
  case atStart => exact ⟨0, by omega, rfl, HT, HB⟩
  case round =>
    obtain ⟨k, hk, rfl, HTr, HBr⟩ := hrel
    by_cases hlt : k < 2
    · obtain ⟨p, q0, hnob⟩ := two_at HTr.out k hlt
      have HNOB := Lib.hid hnob
      clear hnob
      go_upto_region 6 with (go_at_call 10; refine (box_nob _ p i HNOB.out).mono ?_; rintro e w1 ⟨rfl, hb1⟩; have HB1 := Lib.hid hb1; clear hb1)
      obtain ⟨wa, hwa⟩ : ∃ W : World, W = w1.alloc (.cells zBox 43) := ⟨_, rfl⟩
      have hba : Below w1.heap.size w1 wa := by rw [hwa]; exact s_alloc (Below.refl _ _) _
      have hxa : wa.heap[w1.heap.size]? = some (.cells zBox 43 (0, 0)) := by rw [hwa]; exact Array.getElem?_push_size
      have HA := Lib.hid (s_trans HB1.out hba)
      have HXA := Lib.hid hxa
      unfold zBox at hwa
      rw [← hwa]
      clear hwa hba hxa q0
      go_wp2_with (first
        | (go_at_call 11; refine (find_nob _ p i (HNOB.out.below HA.out)).mono ?_; rintro e w2 ⟨rfl, hb2⟩; have HA2 := Lib.hid (s_trans HA.out hb2); obtain ⟨x0, x1, x2, x3, x4, x5⟩ := cells6 (block_on hb2 HXA.out); clear hb2)
        | (go_at_call 12; refine (len_nob _ p (HNOB.out.below HA2.out)).mono ?_; rintro e w3 ⟨rfl, hb3⟩; have HA3 := Lib.hid (s_trans HA2.out hb3); clear hb3)
        | (go_at_call 8; refine (order_nob _ p (HNOB.out.below HA3.out)).mono ?_; rintro e w4 ⟨rfl, hb4⟩; have HA4 := Lib.hid (s_trans HA3.out hb4); clear hb4)
        | (go_at_call 9; refine (needs_nob _ p i (HNOB.out.below HA4.out)).mono ?_; rintro e w5 ⟨rfl, hb5⟩; have HA5 := Lib.hid (s_trans HA4.out hb5); clear hb5))
      go_roundw
      case rel => exact ⟨k + 1, by omega, by go_num, Lib.hid (HTr.out.below HA5.out), Lib.hid (s_trans HBr.out HA5.out)⟩
      case measure => simp [intOf]; omega
    · obtain rfl : k = 2 := by omega
      go_wp2_with (go_at_call 6; refine (lives_any _).mono ?_; rintro e w1 ⟨rfl, hb1⟩; have HB1 := Lib.hid (s_trans HBr.out hb1); clear hb1)
      go_ret
      exact ⟨rfl, HB1.out⟩
end Go.Proofs.Ytepddfkdjdklnaa.Ch
