/-
  people: the chapter's example.
-/
import Derived.Test.YtbjoegladcmibaaQPe4
namespace Go.Proofs.Ytbjoegladcmibaa.Pe
set_option linter.unusedVariables false
set_option linter.unusedSimpArgs false
set_option linter.unnecessarySimpa false
open Go.RowKit Go.Maps Go.Proofs.YtbjoegladcmibaaK Go.Proofs.Ytbjoegladcmibaa.Ln Go.Proofs.Ytbjoegladcmibaa.LnB Go.Proofs.Ytbjoegladcmibaa.Vi Go.Proofs.YtbjoegladcmibaaW.PrintWords

abbrev DE : ByteArray := ⟨#[68, 69]⟩
abbrev FR : ByteArray := ⟨#[70, 82]⟩
abbrev US : ByteArray := ⟨#[85, 83]⟩
abbrev NM : ByteArray := ⟨#[49, 50, 51, 52, 53, 54, 55, 56, 57, 48, 49]⟩
abbrev N77 : ByteArray := ⟨#[55, 55]⟩
theorem memDE : memB DE = true := by kernel_rfl
theorem memFR : memB FR = true := by kernel_rfl
theorem memUS : memB US = false := by kernel_rfl
theorem ridFR : ridB FR NM = true := by kernel_rfl
theorem ridUS : ridB US N77 = true := by kernel_rfl
theorem bz0 (M : PM) (day : Int) : bizB DE M FR NM day = heldB (cont M (some (FR ++ NM))) day := by
  unfold bizB
  rw [if_pos ridFR, memFR, if_neg (by decide)]
theorem bz1 (g0 : Nat) (day : Int) : bizB DE (M0 g0) FR NM day = false := by
  rw [bz0]
  exact held_nil day
theorem bz2 (M : PM) (day : Int) : bizB DE M US N77 day = true := by
  unfold bizB
  rw [if_pos ridUS, memUS, if_pos (Or.inr rfl)]
theorem st1 (g0 : Nat) : stE (M0 g0) FR NM 0 9 = 0 := by
  unfold stE
  rw [if_pos ridFR]
  show setE [] 0 9 = 0
  decide
theorem st2 (g0 : Nat) : stL (M0 g0) FR NM 0 9 = [(0, 9, true)] := by
  unfold stL
  rw [if_pos ridFR]
  show setL [] 0 9 true = [(0, 9, true)]
  decide
theorem held1 : heldB [(0, 9, true)] 5 = true := by decide
theorem held2 : heldB [(0, 9, true)] 10 = false := by decide
theorem b_trans {B : Nat} {w w1 w2 : World} (h : Below B w w1) (k : Below B w1 w2) : Below B w w2 :=
  ⟨k.os.trans h.os, k.tape.trans h.tape, k.output.trans h.output, Nat.le_trans h.size k.size, fun i hi => (k.block i hi).trans (h.block i hi)⟩
theorem b_less {B C : Nat} {w w1 : World} (h : Below C w w1) (hB : B ≤ C) : Below B w w1 :=
  ⟨h.os, h.tape, h.output, h.size, fun i hi => h.block i (by omega)⟩
set_option maxRecDepth 100000 in
set_option maxHeartbeats 4000000 in
theorem lives_any (w : World) : Calls Try.prog 18 #[] w fun e w' => e = .returned (.bool true) ∧ Below w.heap.size w w' := by
  have hN := new_any w DE memDE
  have HN := Lib.hid hN
  have hb1 := fun wx p m g0 (hx : Pp wx w.heap.size p m 0 DE (M0 g0)) => biz_any wx w.heap.size p m 0 DE (by decide) (M0 g0) hx FR NM (by decide) 5
  simp only [bz1] at hb1
  have hb2 := fun wx p m g0 (hx : Pp wx w.heap.size p m 0 DE (M0 g0)) => biz_any wx w.heap.size p m 0 DE (by decide) (M0 g0) hx US N77 (by decide) 5
  simp only [bz2] at hb2
  have hst := fun wx p m g0 (hx : Pp wx w.heap.size p m 0 DE (M0 g0)) (hs : w.heap.size ≤ wx.heap.size) => status_any wx w.heap.size p m 0 DE (by decide) (M0 g0) hx hs (by decide) FR NM (by decide) 0 9
  simp only [st1, st2] at hst
  have hb3 := fun wx p m n M (hx : Pp wx w.heap.size p m n DE M) (hc : cont M (some (FR ++ NM)) = [(0, 9, true)]) => biz_any wx w.heap.size p m n DE (by decide) M hx FR NM (by decide) 5
  have hb4 := fun wx p m n M (hx : Pp wx w.heap.size p m n DE M) (hc : cont M (some (FR ++ NM)) = [(0, 9, true)]) => biz_any wx w.heap.size p m n DE (by decide) M hx FR NM (by decide) 10
  have hb3' : ∀ wx p m n M (hx : Pp wx w.heap.size p m n DE M) (hc : cont M (some (FR ++ NM)) = [(0, 9, true)]), Calls Try.prog 21 #[.pointer (some ⟨p, 0, none⟩), .string FR, .string NM, .int .i64 5] wx fun e w' => e = .returned (.bool true) ∧ Below wx.heap.size wx w' := fun wx p m n M hx hc => by
    have := hb3 wx p m n M hx hc
    rwa [bz0, hc, held1] at this
  have hb4' : ∀ wx p m n M (hx : Pp wx w.heap.size p m n DE M) (hc : cont M (some (FR ++ NM)) = [(0, 9, true)]), Calls Try.prog 21 #[.pointer (some ⟨p, 0, none⟩), .string FR, .string NM, .int .i64 10] wx fun e w' => e = .returned (.bool false) ∧ Below wx.heap.size wx w' := fun wx p m n M hx hc => by
    have := hb4 wx p m n M hx hc
    rwa [bz0, hc, held2] at this
  have HB1 := Lib.hid hb1
  have HB2 := Lib.hid hb2
  have HST := Lib.hid hst
  have HB3 := Lib.hid hb3'
  have HB4 := Lib.hid hb4'
  clear hN hb1 hb2 hst hb3 hb4 hb3' hb4'
  go_enter Try.func18, Try.ntmps18
  go_wp2_with (first
    | (go_at_call 19; refine HN.out.mono ?_; rintro e w1 ⟨p, m, g0, rfl, hp, hb⟩; have HP1 := Lib.hid hp; have HW1 := Lib.hid hb; clear hp hb)
    | (go_at_call 21; with_reducible refine (HB4.out w5 _ _ _ _ HP5.out HC4.out).mono ?_; rintro e w6 ⟨rfl, hb⟩; have HW6 := Lib.hid (b_trans HW5.out (b_less hb HW5.out.size)); clear hb)
    | (go_at_call 21; with_reducible refine (HB3.out w4 _ _ _ _ HP4.out HC4.out).mono ?_; rintro e w5 ⟨rfl, hb⟩; have HP5 := Lib.hid (HP4.out.below hb); have HW5 := Lib.hid (b_trans HW4.out (b_less hb HW4.out.size)); clear hb)
    | (go_at_call 21; with_reducible refine (HB2.out w2 _ _ _ HP2.out).mono ?_; rintro e w3 ⟨rfl, hb⟩; have HP3 := Lib.hid (HP2.out.below hb); have HW3 := Lib.hid (s_trans HW2.out hb); clear hb)
    | (go_at_call 21; with_reducible refine (HB1.out w1 _ _ _ HP1.out).mono ?_; rintro e w2 ⟨rfl, hb⟩; have HP2 := Lib.hid (HP1.out.below hb); have HW2 := Lib.hid (s_trans HW1.out hb); clear hb)
    | (go_at_call 20; refine (HST.out w3 _ _ _ HP3.out HW3.out.size).mono ?_; rintro e w4 ⟨rfl, ⟨M, hp, _, hc, _⟩, hb⟩; have HP4 := Lib.hid hp; have HC4 := Lib.hid hc; have HW4 := Lib.hid (b_trans HW3.out hb); clear hp hc hb))
  go_ret
  exact ⟨rfl, HW6.out⟩
end Go.Proofs.Ytbjoegladcmibaa.Pe
