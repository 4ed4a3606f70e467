/-
  settle.Text's closure: a word, a blank, a number, a new line.
-/
import Derived.Test.YtlciddgncngniaaDoorTxt
namespace Go.Proofs.YtlciddgncngniaaDoor.ST
open Go.RowKit Go.Proofs.YtlciddgncngniaaDoorW.PrintWords Go.Proofs.YtlciddgncngniaaDoorK Go.Proofs.YtlciddgncngniaaDoor.BX
set_option linter.unusedVariables false
set_option linter.unusedSimpArgs false
set_option linter.unnecessarySimpa false

def partL (s : ByteArray) (n : Int) : List UInt8 := s.data.toList ++ 32 :: (Lib.itoa n ++ [10])
theorem partL_len (s : ByteArray) (n : Int) (hs : s.size ≤ 20) (h0 : -9223372036854775808 ≤ n) (h1 : n ≤ 9223372036854775807) : (partL s n).length ≤ 50 := by
  have q := Lib.itoa_length_le n h0 h1
  have q2 : s.data.toList.length = s.size := Array.length_toList
  unfold partL
  rw [List.length_append, List.length_cons, List.length_append, q2]
  simp only [List.length_cons, List.length_nil]
  omega
theorem len_1 (l : List UInt8) (s : ByteArray) (h : l.length ≤ 1000) (hs : s.size ≤ 20) : l.length + s.size ≤ 140737488355328 := by omega
theorem len_2 (l : List UInt8) (s : ByteArray) (h : l.length ≤ 1000) (hs : s.size ≤ 20) : (l ++ s.data.toList).length + 1 ≤ 140737488355328 := by
  have q2 : s.data.toList.length = s.size := Array.length_toList
  rw [List.length_append, q2]
  omega
theorem len_3 (l : List UInt8) (s : ByteArray) (n : Int) (h : l.length ≤ 1000) (hs : s.size ≤ 20) (hn : (Lib.itoa n).length ≤ 21) : (l ++ s.data.toList ++ [32]).length + (⟨(Lib.itoa n).toArray⟩ : ByteArray).size ≤ 140737488355328 := by
  have q2 : s.data.toList.length = s.size := Array.length_toList
  have q3 : (⟨(Lib.itoa n).toArray⟩ : ByteArray).size = (Lib.itoa n).length := by show (Lib.itoa n).toArray.size = _; rw [List.size_toArray]
  rw [List.length_append, List.length_append, q2, q3]
  simp only [List.length_cons, List.length_nil]
  omega
theorem len_4 (l : List UInt8) (s : ByteArray) (n : Int) (h : l.length ≤ 1000) (hs : s.size ≤ 20) (hn : (Lib.itoa n).length ≤ 21) : (l ++ s.data.toList ++ [32] ++ Lib.itoa n).length + 1 ≤ 140737488355328 := by
  have q2 : s.data.toList.length = s.size := Array.length_toList
  rw [List.length_append, List.length_append, List.length_append, q2]
  simp only [List.length_cons, List.length_nil]
  omega

set_option maxHeartbeats 2000000 in
set_option maxRecDepth 100000 in
theorem put_walk (B b : Nat) (l : List UInt8) (s : ByteArray) (n : Int) (w0 w : World) (h : Txt B b l w0 w) (hB : B ≤ w.heap.size) (hlen : l.length ≤ 1000) (hs : s.size ≤ 20) (h0 : -9223372036854775808 ≤ n) (h1 : n ≤ 9223372036854775807)
    (ht : ∀ w', Below B w0 w' → Tab w') :
    Calls Tryd.prog 66 #[.string s, .int .i64 n, .pointer (some ⟨b, 0, none⟩)] w fun e w' => e = .returned (.tuple #[]) ∧ Txt B b (l ++ partL s n) w0 w' ∧ Below B w w' := by
  have H := Lib.hid h
  have HT := Lib.hid ht
  have HI := Lib.hid (Lib.itoa_length_le n h0 h1)
  have L1 := Lib.hid (len_1 l s hlen hs)
  have L2 := Lib.hid (len_2 l s hlen hs)
  have L3 := Lib.hid (len_3 l s n hlen hs HI.out)
  have L4 := Lib.hid (len_4 l s n hlen hs HI.out)
  clear h ht hs hlen
  go_enter Tryd.func66, Tryd.ntmps66
  go_upto_region 1 with (go_at_call 51; refine (writeString_txt B b l s w0 _ H.out L1.out hB).mono ?_; rintro e w1 ⟨rfl, h1, hb1⟩; have H1 := Lib.hid h1; have HB1 := Lib.hid hb1; clear h1 hb1)
  go_upto_region 2 with (go_at_call 50; refine (writeByte_txt B b _ 32 w0 _ H1.out L2.out (Nat.le_trans hB HB1.out.size)).mono ?_; rintro e w2 ⟨rfl, h2, hb2⟩; have H2 := Lib.hid h2; have HB2 := Lib.hid (HB1.out.trans hb2); clear h2 hb2)
  go_upto_region 3 with (first
    | (go_at_call 52; refine (itoa_any n _ h0 (by assumption) (HT.out _ H2.out.below)).mono ?_; rintro e w3 ⟨rfl, hb3⟩; have H3 := Lib.hid (H2.out.made hb3 (Nat.le_trans hB HB2.out.size)); have HB3 := Lib.hid (HB2.out.trans (hb3.mono (Nat.le_trans hB HB2.out.size))); clear hb3)
    | (go_at_call 51; refine (writeString_txt B b _ _ w0 _ H3.out L3.out (Nat.le_trans hB HB3.out.size)).mono ?_; rintro e w4 ⟨rfl, h4, hb4⟩; have H4 := Lib.hid h4; have HB4 := Lib.hid (HB3.out.trans hb4); clear h4 hb4))
  go_wp2_with (go_at_call 50; refine (writeByte_txt B b _ 10 w0 _ H4.out L4.out (Nat.le_trans hB HB4.out.size)).mono ?_; rintro e w5 ⟨rfl, h5, hb5⟩; have H5 := Lib.hid h5; have HB5 := Lib.hid (HB4.out.trans hb5); clear h5 hb5)
  go_end0
  refine ⟨rfl, ?_, HB5.out⟩
  have q := H5.out
  unfold partL
  simpa using q
def textL (a b c d e : Int) : List UInt8 := partL ⟨#[111, 117, 116]⟩ a ++ partL ⟨#[105, 110]⟩ b ++ partL ⟨#[98, 101, 102, 111, 114, 101]⟩ c ++ partL ⟨#[100, 117, 101]⟩ d ++ partL ⟨#[97, 102, 116, 101, 114]⟩ e
end Go.Proofs.YtlciddgncngniaaDoor.ST
