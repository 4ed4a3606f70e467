/-
  entry.Line's closure, which writes a blank and a number; entry.Fields.
-/
import Derived.Test.YtlciddgncngniaaDoorTxt
namespace Go.Proofs.YtlciddgncngniaaDoor.EN
open Go.RowKit Go.Proofs.YtlciddgncngniaaDoorW.PrintWords Go.Proofs.YtlciddgncngniaaDoorK Go.Proofs.YtlciddgncngniaaDoor.BX
set_option linter.unusedVariables false
set_option linter.unusedSimpArgs false
set_option linter.unnecessarySimpa false

set_option maxHeartbeats 2000000 in
set_option maxRecDepth 100000 in
theorem put_walk (B b : Nat) (l : List UInt8) (n : Int) (w0 w : World) (h : Txt B b l w0 w) (hB : B ≤ w.heap.size) (hlen : l.length + 22 ≤ 140737488355328) (h0 : -9223372036854775808 ≤ n) (h1 : n ≤ 9223372036854775807)
    (ht : ∀ w', Below B w0 w' → Tab w') :
    Calls Tryd.prog 49 #[.int .i64 n, .pointer (some ⟨b, 0, none⟩)] w fun e w' => e = .returned (.tuple #[]) ∧ Txt B b (l ++ 32 :: Lib.itoa n) w0 w' ∧ Below B w w' := by
  have H := Lib.hid h
  have HT := Lib.hid ht
  have hi := Lib.itoa_length_le n h0 h1
  have HI := Lib.hid hi
  clear h ht hi
  go_enter Tryd.func49, Tryd.ntmps49
  go_wp2_with (first
    | (go_at_call 50; refine (writeByte_txt B b l 32 w0 _ H.out (by omega) hB).mono ?_; rintro e w1 ⟨rfl, h1, hb1⟩; have H1 := Lib.hid h1; have HB1 := Lib.hid hb1; clear h1 hb1)
    | (go_at_call 52; refine (itoa_any n _ h0 (by assumption) (HT.out _ H1.out.below)).mono ?_; rintro e w2 ⟨rfl, hb2⟩; have H2 := Lib.hid (H1.out.made hb2 (Nat.le_trans hB HB1.out.size)); have HB2 := Lib.hid (HB1.out.trans (hb2.mono (Nat.le_trans hB HB1.out.size))); clear hb2)
    | (go_at_call 51; refine (writeString_txt B b _ _ w0 _ H2.out (by have q := HI.out; rw [List.length_append]; show l.length + 1 + (Lib.itoa n).toArray.size ≤ _; rw [List.size_toArray]; omega) (Nat.le_trans hB HB2.out.size)).mono ?_; rintro e w3 ⟨rfl, h3, hb3⟩; have H3 := Lib.hid h3; have HB3 := Lib.hid (HB2.out.trans hb3); clear h3 hb3))
  go_end0
  refine ⟨rfl, ?_, HB3.out⟩
  have q := H3.out
  rw [List.append_assoc] at q
  exact q

theorem fields_walk (w : World) : Calls Tryd.prog 36 #[] w fun e w' => e = .returned (.slice (some ⟨w.heap.size, 0, none⟩) 4 4) ∧
    w'.heap[w.heap.size]? = some (.cells #[.string ⟨#[98, 97, 115, 101]⟩, .string ⟨#[116, 97, 120]⟩, .string ⟨#[111, 117, 116]⟩, .string ⟨#[105, 110]⟩] 9 (0, 0)) ∧ Below w.heap.size w w' := by
  go_enter Tryd.func36, Tryd.ntmps36
  go_wp2
  go_ret
  refine ⟨rfl, ?_, s_alloc (Below.refl _ _) _⟩
  exact Array.getElem?_push_size

def nmF (k : Nat) : ByteArray := if k = 0 then ⟨#[98, 97, 115, 101]⟩ else if k = 1 then ⟨#[116, 97, 120]⟩ else if k = 2 then ⟨#[111, 117, 116]⟩ else ⟨#[105, 110]⟩
theorem nmF_cell {w : World} {g : Nat} (h : w.heap[g]? = some (.cells #[.string ⟨#[98, 97, 115, 101]⟩, .string ⟨#[116, 97, 120]⟩, .string ⟨#[111, 117, 116]⟩, .string ⟨#[105, 110]⟩] 9 (0, 0))) (k : Nat) (hk : k < 4) :
    w.cell? ⟨g, k, none⟩ = some (.string (nmF k)) := by
  rw [blk_cell h k]
  have : k = 0 ∨ k = 1 ∨ k = 2 ∨ k = 3 := by omega
  rcases this with rfl | rfl | rfl | rfl <;> rfl
/-- The numbers of a row's line, one behind the other. -/
def numsL : List Int → List UInt8
  | [] => []
  | n :: l => (32 :: Lib.itoa n) ++ numsL l
theorem numsL_snoc : ∀ (l : List Int) (n : Int), numsL (l ++ [n]) = numsL l ++ 32 :: Lib.itoa n
  | [], n => by simp [numsL]
  | m :: l, n => by rw [List.cons_append, numsL, numsL_snoc l n, numsL, List.append_assoc]
end Go.Proofs.YtlciddgncngniaaDoor.EN
