/-
  The table of powers of ten, strconv.Itoa, and a builder behind calls that make memory.
-/
import Derived.Test.YtlciddgncngniaaDoorShelf
import Derived.Test.YtlciddgncngniaaDoorBuf
import Derived.Lib.ItoaLen
import Derived.Lib.AppendIntMem
import Derived.Lib.OthersKept
import Derived.Lib.BufferKept
namespace Go.Proofs.YtlciddgncngniaaDoor.BX
open Go.RowKit Go.Proofs.YtlciddgncngniaaDoorW.PrintWords Go.Proofs.YtlciddgncngniaaDoorK
set_option linter.unusedVariables false
set_option linter.unusedSimpArgs false
set_option linter.unnecessarySimpa false

/-- The library's table of powers of ten lies as its text lays it. -/
def Tab (w : World) : Prop := Lib.TabIs Tryd.prog w "internal/strconv.uint64pow10" .u64 Lib.pow10Tab
theorem Tab.below {w w1 : World} (h : Tab w) (hb : Below w.heap.size w w1) : Tab w1 := Lib.tabBelow_of_tabIs h _ hb
theorem Tab.alloc {w : World} (h : Tab w) (o : Obj) : Tab (w.alloc o) := h.below (s_alloc (Below.refl _ _) o)
theorem Tab.drewN {w : World} (h : Tab w) (n : Nat) : Tab (w.drewN n) := h.below (s_drewN (Below.refl _ _) n)

theorem itoa_any (n : Int) (w : World) (h0 : -9223372036854775808 ≤ n) (h1 : n ≤ 9223372036854775807) (ht : Tab w) :
    Calls Tryd.prog 52 #[.int .i64 n] w fun e w' => e = .returned (.string ⟨(Lib.itoa n).toArray⟩) ∧ Below w.heap.size w w' := by
  refine (Tryd.strconv_Itoa n h0 h1 w ht).mono ?_
  rintro e w' ⟨rfl, k, os, rfl⟩
  refine ⟨rfl, ?_⟩
  have h := s_drewN (Below.refl w.heap.size w) k
  refine ⟨h.os, h.tape, h.output, ?_, fun i hi => ?_⟩
  · show w.heap.size ≤ ((w.drewN k).heap ++ os).size
    rw [Array.size_append]
    exact Nat.le_trans h.size (Nat.le_add_right _ _)
  · show ((w.drewN k).heap ++ os)[i]? = _
    rw [Array.getElem?_append_left (Nat.lt_of_lt_of_le hi h.size)]
    exact h.block i hi

theorem IsBuilder_below {B b : Nat} {bs : List Value} {w w1 : World} (h : Lib.IsBuilder 83 5 B b bs w) (hb : Below w.heap.size w w1) : Lib.IsBuilder 83 5 B b bs w1 := by
  have key : ∀ p, Lib.BuilderAt 83 5 B b p bs w → Lib.BuilderAt 83 5 B b p bs w1 := by
    rintro p ⟨hB, v, hbk, hown, hne⟩
    exact ⟨hB, v, block_on hb hbk, own_move hown (fun k hk => hb.block k (own_lt hown k hk)), hne⟩
  exact h.imp (key _) (key _)
theorem IsBuilder_lt {B b : Nat} {bs : List Value} {w : World} (h : Lib.IsBuilder 83 5 B b bs w) : b < w.heap.size := by
  rcases h with h | h
  · exact h.lt
  · exact h.lt
/-- A builder that holds the bytes l; what was there below B, and any other block that is no row of bytes, is as it was. -/
structure Txt (B b : Nat) (l : List UInt8) (w0 w : World) : Prop where
  is : Lib.IsBuilder 83 5 B b (Lib.byteCells l) w
  below : Below B w0 w
  others : Lib.OthersKept 5 (some b) w0 w
theorem Txt.made {B b : Nat} {l : List UInt8} {w0 w w1 : World} (h : Txt B b l w0 w) (hb : Below w.heap.size w w1) (hB : B ≤ w.heap.size) : Txt B b l w0 w1 :=
  ⟨IsBuilder_below h.is hb, h.below.trans (hb.mono hB), h.others.below hb⟩
theorem writeByte_txt (B b : Nat) (l : List UInt8) (c : UInt8) (w0 w : World) (h : Txt B b l w0 w) (hlen : l.length + 1 ≤ 140737488355328) (hBw : B ≤ w.heap.size) :
    Calls Tryd.prog 50 #[.pointer (some ⟨b, 0, none⟩), .int .u8 c.toNat] w fun e w' => e = .returned .nilIface ∧ Txt B b (l ++ [c]) w0 w' ∧ Below B w w' := by
  refine (writeByte_any B b (Lib.byteCells l) c.toNat w h.is (by rw [Lib.byteCells_length]; exact hlen) hBw).mono ?_
  rintro e w' ⟨rfl, h1, h2, h3⟩
  refine ⟨rfl, ⟨?_, h.below.trans h2, h.others.trans h3⟩, h2⟩
  rw [Lib.byteCells_append]
  exact h1
theorem writeString_txt (B b : Nat) (l : List UInt8) (s : ByteArray) (w0 w : World) (h : Txt B b l w0 w) (hlen : l.length + s.size ≤ 140737488355328) (hBw : B ≤ w.heap.size) :
    Calls Tryd.prog 51 #[.pointer (some ⟨b, 0, none⟩), .string s] w fun e w' => e = .returned (.tuple #[.int .i64 s.size, .nilIface]) ∧ Txt B b (l ++ s.data.toList) w0 w' ∧ Below B w w' := by
  refine (writeString_any B b (Lib.byteCells l) s w h.is (by rw [Lib.byteCells_length]; exact hlen) hBw).mono ?_
  rintro e w' ⟨rfl, h1, h2, h3⟩
  refine ⟨rfl, ⟨?_, h.below.trans h2, h.others.trans h3⟩, h2⟩
  rw [Lib.byteCells_append]
  exact h1
end Go.Proofs.YtlciddgncngniaaDoor.BX
