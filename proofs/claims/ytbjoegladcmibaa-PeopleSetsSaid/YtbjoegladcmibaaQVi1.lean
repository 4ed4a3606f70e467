/-
  vatid: letter, digit, stands, fits: their contracts.
-/
import Derived.Test.YtbjoegladcmibaaQK2
import Derived.Test.YtbjoegladcmibaaQWall
import Derived.Lib.Bytealg
import Derived.WalkMore
import Derived.ScopeJumps
import Derived.Deep.DeepCutAuto
namespace Go.Proofs.Ytbjoegladcmibaa.Vi
set_option linter.unusedVariables false
set_option linter.unusedSimpArgs false
set_option linter.unnecessarySimpa false
open Go.RowKit Go.Proofs.YtbjoegladcmibaaK Go.Proofs.YtbjoegladcmibaaW.PrintWords

def letterB (b : Int) : Bool := decide (65 ≤ b) && decide (b ≤ 90)
def digitB (b : Int) : Bool := decide (48 ≤ b) && decide (b ≤ 57)
theorem ret_b {a b : Bool} (h : a = b) : Ending.returned (.bool a) = .returned (.bool b) := by rw [h]
theorem letter_any (b : Int) (w : World) : Calls Try.prog 120 #[.int .u8 b] w fun e w' => e = .returned (.bool (letterB b)) ∧ w = w' := by
  unfold letterB
  by_cases h : 65 ≤ b
  · have h1 : decide (65 ≤ b) = true := decide_eq_true h
    go_enter Try.func120, Try.ntmps120
    go_wp2
    all_goals
      go_ret
      refine ⟨ret_b ?_, rfl⟩
      simp [h1]
  · have h1 : decide (65 ≤ b) = false := decide_eq_false h
    go_enter Try.func120, Try.ntmps120
    go_wp2
    all_goals
      go_ret
      refine ⟨ret_b ?_, rfl⟩
      simp [h1]
theorem digit_any (b : Int) (w : World) : Calls Try.prog 124 #[.int .u8 b] w fun e w' => e = .returned (.bool (digitB b)) ∧ w = w' := by
  unfold digitB
  by_cases h : 48 ≤ b
  · have h1 : decide (48 ≤ b) = true := decide_eq_true h
    go_enter Try.func124, Try.ntmps124
    go_wp2
    all_goals
      go_ret
      refine ⟨ret_b ?_, rfl⟩
      simp [h1]
  · have h1 : decide (48 ≤ b) = false := decide_eq_false h
    go_enter Try.func124, Try.ntmps124
    go_wp2
    all_goals
      go_ret
      refine ⟨ret_b ?_, rfl⟩
      simp [h1]
theorem index_calls (a0 : ByteArray) (c : Int) (w : World) : Calls Try.prog 123 #[.string a0, .int .u8 c] w fun e w' => e = .returned (.int .i64 (Lib.indexByte a0.data.toList c.toNat.toUInt8)) ∧ w' = w := by
  have hx : ∀ wx, (callFunc 169 #[.string a0, .int .u8 c]).run Try.prog wx = .ok (.value (.int .i64 (Lib.indexByte a0.data.toList c.toNat.toUInt8))) wx := by
    intro wx
    rw [run_callFunc_extern Try.func169 (by kernel_rfl) (by kernel_rfl) (by kernel_rfl) (e := Extern.BytealgIndexByte.indexByte) (by kernel_rfl), Lib.run_indexByteString]
    rfl
  go_enter Try.func123, Try.ntmps123
  go_wp2
  go_ret
  exact ⟨rfl, rfl⟩
theorem plus_index : ∀ x : Fin 256, decide (0 ≤ Lib.indexByte [43, 42] (x.val.toUInt8)) = ((x.val : Int) == 43 || (x.val : Int) == 42) := by decide +kernel
theorem extra_any (g : Nat) (b : Int) (h0 : 0 ≤ b) (h1 : b < 256) (w : World) (hc : w.cell? ⟨g, 0, none⟩ = some (.int .u8 b)) :
    Calls Try.prog 122 #[.string ⟨#[43, 42]⟩, .pointer (some ⟨g, 0, none⟩)] w fun e w' => e = .returned (.bool (b == 43 || b == 42)) ∧ w = w' := by
  have hp := plus_index ⟨b.toNat, by omega⟩
  have e2 : ((b.toNat : Nat) : Int) = b := by omega
  simp only [e2] at hp
  have HP := Lib.hid hp
  clear hp e2
  go_enter Try.func122, Try.ntmps122
  go_wp2_with (go_at_call 123; refine (index_calls _ _ _).mono ?_; rintro e w1 ⟨rfl, rfl⟩)
  go_ret
  refine ⟨ret_b ?_, rfl⟩
  exact HP.out

def standsB (f b : Int) : Bool := if f = 43 then (b == 43 || b == 42) || (letterB b || digitB b) else if f = 88 then letterB b || digitB b else if f = 65 then letterB b else if f = 57 then digitB b else f == b
set_option maxRecDepth 100000 in
set_option maxHeartbeats 2000000 in
theorem stands_any (f b : Int) (h0 : 0 ≤ b) (h1 : b < 256) (w : World) : Calls Try.prog 98 #[.int .u8 f, .int .u8 b] w fun e w' => e = .returned (.bool (standsB f b)) ∧ Below w.heap.size w w' := by
  have hx : (w.alloc (.cells #[.int .u8 b] 5)).cell? ⟨w.heap.size, 0, none⟩ = some (.int .u8 b) := cells1 Array.getElem?_push_size
  have HX := Lib.hid hx
  have H0 := Lib.hid h0
  have H1 := Lib.hid h1
  have hlet := fun wx => letter_any b wx
  have hdig := fun wx => digit_any b wx
  have hext := fun g wx hc => extra_any g b h0 h1 wx hc
  unfold standsB
  generalize letterB b = L at *
  generalize digitB b = D at *
  generalize (b == 43 || b == 42) = P at *
  have HL := Lib.hid hlet
  have HD := Lib.hid hdig
  have HE := Lib.hid hext
  clear hlet hdig hext h0 h1 hx
  by_cases c1 : f = 43
  · subst c1
    rw [if_pos rfl]
    cases P <;> cases L
    all_goals
      go_enter Try.func98, Try.ntmps98
      go_wp2_with (first
        | (go_at_call 122; refine (HE.out _ _ HX.out).mono ?_; rintro e w1 ⟨rfl, rfl⟩)
        | (go_at_call 120; refine (HL.out _).mono ?_; rintro e w1 ⟨rfl, rfl⟩)
        | (go_at_call 124; refine (HD.out _).mono ?_; rintro e w1 ⟨rfl, rfl⟩))
      all_goals
        go_ret
        exact ⟨ret_b (by simp), s_alloc (Below.refl _ _) _⟩
  · rw [if_neg c1]
    have d1 : (f == 43) = false := beq_eq_false_iff_ne.2 c1
    by_cases c2 : f = 88
    · subst c2
      rw [if_pos rfl]
      cases L
      all_goals
        go_enter Try.func98, Try.ntmps98
        go_wp2_with (first
          | (go_at_call 120; refine (HL.out _).mono ?_; rintro e w1 ⟨rfl, rfl⟩)
          | (go_at_call 124; refine (HD.out _).mono ?_; rintro e w1 ⟨rfl, rfl⟩))
        all_goals
          go_ret
          exact ⟨ret_b (by simp), s_alloc (Below.refl _ _) _⟩
    · rw [if_neg c2]
      have d2 : (f == 88) = false := beq_eq_false_iff_ne.2 c2
      by_cases c3 : f = 65
      · subst c3
        rw [if_pos rfl]
        go_enter Try.func98, Try.ntmps98
        go_wp2_with (go_at_call 120; refine (HL.out _).mono ?_; rintro e w1 ⟨rfl, rfl⟩)
        go_ret
        exact ⟨rfl, s_alloc (Below.refl _ _) _⟩
      · rw [if_neg c3]
        have d3 : (f == 65) = false := beq_eq_false_iff_ne.2 c3
        by_cases c4 : f = 57
        · subst c4
          rw [if_pos rfl]
          go_enter Try.func98, Try.ntmps98
          go_wp2_with (go_at_call 124; refine (HD.out _).mono ?_; rintro e w1 ⟨rfl, rfl⟩)
          go_ret
          exact ⟨rfl, s_alloc (Below.refl _ _) _⟩
        · rw [if_neg c4]
          have d4 : (f == 57) = false := beq_eq_false_iff_ne.2 c4
          go_enter Try.func98, Try.ntmps98
          go_wp2
          go_ret
          exact ⟨rfl, s_alloc (Below.refl _ _) _⟩
end Go.Proofs.Ytbjoegladcmibaa.Vi
