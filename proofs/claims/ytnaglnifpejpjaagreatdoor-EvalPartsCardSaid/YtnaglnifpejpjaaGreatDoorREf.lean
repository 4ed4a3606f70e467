/-
  entry.Field, entry.Tag: contracts.
-/
import Derived.Test.YtnaglnifpejpjaaGreatDoorRE1
import Derived.Test.YtnaglnifpejpjaaGreatDoorRRow
import Derived.Test.YtnaglnifpejpjaaGreatDoorRXEvalRunsx3
import Derived.Test.YtnaglnifpejpjaaGreatDoorRXEvalRunsx14
namespace Go.Proofs.YtnaglnifpejpjaaGreatDoor.XEvalRuns
set_option linter.unusedVariables false
set_option linter.unusedSimpArgs false
set_option linter.unnecessarySimpa false
open Go.RowKit Go.Proofs.YtnaglnifpejpjaaGreatDoorK Go.Proofs.YtnaglnifpejpjaaGreatDoorW.PrintWords Go.Proofs.YtnaglnifpejpjaaGreatDoorW.PrintLast
def entry_Field.f (a0_0 : Int) (a0_1 : Int) (a0_2 : Int) (a0_3 : Int) (a0_4 : Int) (a0_5 : Int) (a0_6 : ByteArray) (a0_7 : Bool) (a0_8 : Int) (a0_9 : Int) (a0_10 : Int) (a0_11 : ByteArray) (a0_12 : ByteArray) (a0_13 : Int) (a0_14 : Int) (a0_15 : Int) (a0_16 : Bool) (a1 : ByteArray) : Option (Int × Bool) := if a1.toList = ([98, 97, 115, 101] : List UInt8) then some (a0_13, true) else if a1.toList = ([116, 97, 120] : List UInt8) then some (a0_14, true) else if a1.toList = ([111, 117, 116] : List UInt8) then (entry_Owed.f a0_0 a0_1 a0_2 a0_3 a0_4 a0_5 a0_6 a0_7 a0_8 a0_9 a0_10 a0_11 a0_12 a0_13 a0_14 a0_15 a0_16).bind fun t => some (t, true) else if a1.toList = ([105, 110] : List UInt8) then some (a0_15, true) else some (0, false)
set_option maxHeartbeats 4000000 in
set_option maxRecDepth 100000 in
theorem entry_Field.calls (a0_0 : Int) (a0_1 : Int) (a0_2 : Int) (a0_3 : Int) (a0_4 : Int) (a0_5 : Int) (a0_6 : ByteArray) (a0_7 : Bool) (a0_8 : Int) (a0_9 : Int) (a0_10 : Int) (a0_11 : ByteArray) (a0_12 : ByteArray) (a0_13 : Int) (a0_14 : Int) (a0_15 : Int) (a0_16 : Bool) (a1 : ByteArray) (r1 : Int) (r2 : Bool) (w : World) (h : entry_Field.f a0_0 a0_1 a0_2 a0_3 a0_4 a0_5 a0_6 a0_7 a0_8 a0_9 a0_10 a0_11 a0_12 a0_13 a0_14 a0_15 a0_16 a1 = some (r1, r2)) :
 Calls Tryz.prog 101 #[.agg #[.int .i64 a0_0, .int .i64 a0_1, .int .i64 a0_2, .int .i64 a0_3, .int .i64 a0_4, .int .i64 a0_5, .string a0_6, .bool a0_7, .int .i64 a0_8, .int .i64 a0_9, .int .i64 a0_10, .string a0_11, .string a0_12, .int .i64 a0_13, .int .i64 a0_14, .int .i64 a0_15, .bool a0_16], .string a1] w fun e w' => e = .returned (.tuple #[.int .i64 r1, .bool r2]) ∧ Below w.heap.size w w' := by
 have hmf : ∀ (fn : Fn) (first cap : Array Value) (w : World), (Instr.makeFunc fn first cap).run Tryz.prog w = .ok (.func fn first cap) w := fun _ _ _ _ => rfl
 unfold entry_Field.f at h
 by_cases c0 : a1.toList = ([98, 97, 115, 101] : List UInt8)
 ·rw [if_pos c0] at h
  obtain ⟨rfl, rfl⟩ := Prod.mk.inj (Option.some.inj h)
  have HC := Lib.hid (fun wx : World => EN.field_base a1 wx c0)
  clear c0
  go_enter Tryz.func101, Tryz.ntmps101
  go_upto_region 4 with (go_at_call 134; refine (HC.out _).mono ?_; rintro e w1 ⟨rfl, hb⟩; have HB := Lib.hid hb; have hc1 := s_cell hb; have hz := s_lt hb; clear hb)
  generalize hW : w1.alloc (Obj.cells #[Value.func (Fn.func 166) #[] #[]] 138) = W4
  have hr0 : (w.alloc (Obj.cells #[Value.int IntKind.i64 a0_0, Value.int IntKind.i64 a0_1, Value.int IntKind.i64 a0_2, Value.int IntKind.i64 a0_3, Value.int IntKind.i64 a0_4, Value.int IntKind.i64 a0_5, Value.string a0_6, Value.bool a0_7, Value.int IntKind.i64 a0_8, Value.int IntKind.i64 a0_9, Value.int IntKind.i64 a0_10, Value.string a0_11, Value.string a0_12, Value.int IntKind.i64 a0_13, Value.int IntKind.i64 a0_14, Value.int IntKind.i64 a0_15, Value.bool a0_16] 45)).heap[w.heap.size]? = some (.cells #[.int .i64 a0_0, .int .i64 a0_1, .int .i64 a0_2, .int .i64 a0_3, .int .i64 a0_4, .int .i64 a0_5, .string a0_6, .bool a0_7, .int .i64 a0_8, .int .i64 a0_9, .int .i64 a0_10, .string a0_11, .string a0_12, .int .i64 a0_13, .int .i64 a0_14, .int .i64 a0_15, .bool a0_16] 45 (0, 0)) := Array.getElem?_push_size
  have hr : W4.heap[w.heap.size]? = some (.cells #[.int .i64 a0_0, .int .i64 a0_1, .int .i64 a0_2, .int .i64 a0_3, .int .i64 a0_4, .int .i64 a0_5, .string a0_6, .bool a0_7, .int .i64 a0_8, .int .i64 a0_9, .int .i64 a0_10, .string a0_11, .string a0_12, .int .i64 a0_13, .int .i64 a0_14, .int .i64 a0_15, .bool a0_16] 45 (0, 0)) := by
   rw [← hW]
   exact block_alloc (block_on HB.out hr0) _
  have HROW := Lib.hid hr
  have hv4 : W4.cell? ⟨w1.heap.size, 0, none⟩ = some (Value.func (Fn.func 166) #[] #[]) := by
   rw [← hW]
   exact cells1 Array.getElem?_push_size
  have HB4 : Hid (Below w.heap.size w W4) := Lib.hid (by rw [← hW]; exact s_alloc (s_trans (s_alloc (Below.refl _ _) _) HB.out) _)
  have HLE := Lib.hid HB4.out.size
  clear hW hr hr0 hc1 hz HB HC
  go_wp2_with (first | (refine wpList_load_row rfl 45 _ rfl _ rfl 45 _ (0, 0) _ HROW.out Tryz.underlying45 rfl (by kernel_rfl) ?_) | go_at_call 166; refine (EN.field_1_walk a0_0 a0_1 a0_2 a0_3 a0_4 a0_5 a0_6 a0_7 a0_8 a0_9 a0_10 a0_11 a0_12 a0_13 a0_14 a0_15 a0_16 _).mono ?_; rintro e w2 ⟨rfl, hb2⟩; have HB2 := Lib.hid hb2; clear hb2)
  all_goals
   go_ret2
   exact ⟨rfl, HB4.out.trans (HB2.out.mono HLE.out)⟩
 ·skip
  by_cases c1 : a1.toList = ([116, 97, 120] : List UInt8)
  ·rw [if_neg c0, if_pos c1] at h
   obtain ⟨rfl, rfl⟩ := Prod.mk.inj (Option.some.inj h)
   have HC := Lib.hid (fun wx : World => EN.field_tax a1 wx c1)
   clear c0 c1
   go_enter Tryz.func101, Tryz.ntmps101
   go_upto_region 4 with (go_at_call 134; refine (HC.out _).mono ?_; rintro e w1 ⟨rfl, hb⟩; have HB := Lib.hid hb; have hc1 := s_cell hb; have hz := s_lt hb; clear hb)
   generalize hW : w1.alloc (Obj.cells #[Value.func (Fn.func 167) #[] #[]] 138) = W4
   have hr0 : (w.alloc (Obj.cells #[Value.int IntKind.i64 a0_0, Value.int IntKind.i64 a0_1, Value.int IntKind.i64 a0_2, Value.int IntKind.i64 a0_3, Value.int IntKind.i64 a0_4, Value.int IntKind.i64 a0_5, Value.string a0_6, Value.bool a0_7, Value.int IntKind.i64 a0_8, Value.int IntKind.i64 a0_9, Value.int IntKind.i64 a0_10, Value.string a0_11, Value.string a0_12, Value.int IntKind.i64 a0_13, Value.int IntKind.i64 a0_14, Value.int IntKind.i64 a0_15, Value.bool a0_16] 45)).heap[w.heap.size]? = some (.cells #[.int .i64 a0_0, .int .i64 a0_1, .int .i64 a0_2, .int .i64 a0_3, .int .i64 a0_4, .int .i64 a0_5, .string a0_6, .bool a0_7, .int .i64 a0_8, .int .i64 a0_9, .int .i64 a0_10, .string a0_11, .string a0_12, .int .i64 a0_13, .int .i64 a0_14, .int .i64 a0_15, .bool a0_16] 45 (0, 0)) := Array.getElem?_push_size
   have hr : W4.heap[w.heap.size]? = some (.cells #[.int .i64 a0_0, .int .i64 a0_1, .int .i64 a0_2, .int .i64 a0_3, .int .i64 a0_4, .int .i64 a0_5, .string a0_6, .bool a0_7, .int .i64 a0_8, .int .i64 a0_9, .int .i64 a0_10, .string a0_11, .string a0_12, .int .i64 a0_13, .int .i64 a0_14, .int .i64 a0_15, .bool a0_16] 45 (0, 0)) := by
    rw [← hW]
    exact block_alloc (block_on HB.out hr0) _
   have HROW := Lib.hid hr
   have hv4 : W4.cell? ⟨w1.heap.size, 0, none⟩ = some (Value.func (Fn.func 167) #[] #[]) := by
    rw [← hW]
    exact cells1 Array.getElem?_push_size
   have HB4 : Hid (Below w.heap.size w W4) := Lib.hid (by rw [← hW]; exact s_alloc (s_trans (s_alloc (Below.refl _ _) _) HB.out) _)
   have HLE := Lib.hid HB4.out.size
   clear hW hr hr0 hc1 hz HB HC
   go_wp2_with (first | (refine wpList_load_row rfl 45 _ rfl _ rfl 45 _ (0, 0) _ HROW.out Tryz.underlying45 rfl (by kernel_rfl) ?_) | go_at_call 167; refine (EN.field_2_walk a0_0 a0_1 a0_2 a0_3 a0_4 a0_5 a0_6 a0_7 a0_8 a0_9 a0_10 a0_11 a0_12 a0_13 a0_14 a0_15 a0_16 _).mono ?_; rintro e w2 ⟨rfl, hb2⟩; have HB2 := Lib.hid hb2; clear hb2)
   all_goals
    go_ret2
    exact ⟨rfl, HB4.out.trans (HB2.out.mono HLE.out)⟩
  ·skip
   by_cases c2 : a1.toList = ([111, 117, 116] : List UInt8)
   ·rw [if_neg c0, if_neg c1, if_pos c2] at h
    obtain ⟨t, hO, h⟩ := Option.bind_eq_some_iff.1 h
    obtain ⟨rfl, rfl⟩ := Prod.mk.inj (Option.some.inj h)
    have HO := Lib.hid hO
    clear hO
    have HC := Lib.hid (fun wx : World => EN.field_out a1 wx c2)
    clear c0 c1 c2
    go_enter Tryz.func101, Tryz.ntmps101
    go_upto_region 4 with (go_at_call 134; refine (HC.out _).mono ?_; rintro e w1 ⟨rfl, hb⟩; have HB := Lib.hid hb; have hc1 := s_cell hb; have hz := s_lt hb; clear hb)
    generalize hW : w1.alloc (Obj.cells #[Value.func (Fn.func 168) #[] #[]] 138) = W4
    have hr0 : (w.alloc (Obj.cells #[Value.int IntKind.i64 a0_0, Value.int IntKind.i64 a0_1, Value.int IntKind.i64 a0_2, Value.int IntKind.i64 a0_3, Value.int IntKind.i64 a0_4, Value.int IntKind.i64 a0_5, Value.string a0_6, Value.bool a0_7, Value.int IntKind.i64 a0_8, Value.int IntKind.i64 a0_9, Value.int IntKind.i64 a0_10, Value.string a0_11, Value.string a0_12, Value.int IntKind.i64 a0_13, Value.int IntKind.i64 a0_14, Value.int IntKind.i64 a0_15, Value.bool a0_16] 45)).heap[w.heap.size]? = some (.cells #[.int .i64 a0_0, .int .i64 a0_1, .int .i64 a0_2, .int .i64 a0_3, .int .i64 a0_4, .int .i64 a0_5, .string a0_6, .bool a0_7, .int .i64 a0_8, .int .i64 a0_9, .int .i64 a0_10, .string a0_11, .string a0_12, .int .i64 a0_13, .int .i64 a0_14, .int .i64 a0_15, .bool a0_16] 45 (0, 0)) := Array.getElem?_push_size
    have hr : W4.heap[w.heap.size]? = some (.cells #[.int .i64 a0_0, .int .i64 a0_1, .int .i64 a0_2, .int .i64 a0_3, .int .i64 a0_4, .int .i64 a0_5, .string a0_6, .bool a0_7, .int .i64 a0_8, .int .i64 a0_9, .int .i64 a0_10, .string a0_11, .string a0_12, .int .i64 a0_13, .int .i64 a0_14, .int .i64 a0_15, .bool a0_16] 45 (0, 0)) := by
     rw [← hW]
     exact block_alloc (block_on HB.out hr0) _
    have HROW := Lib.hid hr
    have hv4 : W4.cell? ⟨w1.heap.size, 0, none⟩ = some (Value.func (Fn.func 168) #[] #[]) := by
     rw [← hW]
     exact cells1 Array.getElem?_push_size
    have HB4 : Hid (Below w.heap.size w W4) := Lib.hid (by rw [← hW]; exact s_alloc (s_trans (s_alloc (Below.refl _ _) _) HB.out) _)
    have HLE := Lib.hid HB4.out.size
    clear hW hr hr0 hc1 hz HB HC
    go_wp2_with (first | (refine wpList_load_row rfl 45 _ rfl _ rfl 45 _ (0, 0) _ HROW.out Tryz.underlying45 rfl (by kernel_rfl) ?_) | go_at_call 168; refine (entry_Owed.calls a0_0 a0_1 a0_2 a0_3 a0_4 a0_5 a0_6 a0_7 a0_8 a0_9 a0_10 a0_11 a0_12 a0_13 a0_14 a0_15 a0_16 _ _ HO.out).mono ?_; rintro e w2 ⟨rfl, hb2⟩; have HB2 := Lib.hid hb2; clear hb2)
    all_goals
     go_ret2
     exact ⟨rfl, HB4.out.trans (HB2.out.mono HLE.out)⟩
   ·skip
    by_cases c3 : a1.toList = ([105, 110] : List UInt8)
    ·rw [if_neg c0, if_neg c1, if_neg c2, if_pos c3] at h
     obtain ⟨rfl, rfl⟩ := Prod.mk.inj (Option.some.inj h)
     have HC := Lib.hid (fun wx : World => EN.field_in a1 wx c3)
     clear c0 c1 c2 c3
     go_enter Tryz.func101, Tryz.ntmps101
     go_upto_region 4 with (go_at_call 134; refine (HC.out _).mono ?_; rintro e w1 ⟨rfl, hb⟩; have HB := Lib.hid hb; have hc1 := s_cell hb; have hz := s_lt hb; clear hb)
     generalize hW : w1.alloc (Obj.cells #[Value.func (Fn.func 169) #[] #[]] 138) = W4
     have hr0 : (w.alloc (Obj.cells #[Value.int IntKind.i64 a0_0, Value.int IntKind.i64 a0_1, Value.int IntKind.i64 a0_2, Value.int IntKind.i64 a0_3, Value.int IntKind.i64 a0_4, Value.int IntKind.i64 a0_5, Value.string a0_6, Value.bool a0_7, Value.int IntKind.i64 a0_8, Value.int IntKind.i64 a0_9, Value.int IntKind.i64 a0_10, Value.string a0_11, Value.string a0_12, Value.int IntKind.i64 a0_13, Value.int IntKind.i64 a0_14, Value.int IntKind.i64 a0_15, Value.bool a0_16] 45)).heap[w.heap.size]? = some (.cells #[.int .i64 a0_0, .int .i64 a0_1, .int .i64 a0_2, .int .i64 a0_3, .int .i64 a0_4, .int .i64 a0_5, .string a0_6, .bool a0_7, .int .i64 a0_8, .int .i64 a0_9, .int .i64 a0_10, .string a0_11, .string a0_12, .int .i64 a0_13, .int .i64 a0_14, .int .i64 a0_15, .bool a0_16] 45 (0, 0)) := Array.getElem?_push_size
     have hr : W4.heap[w.heap.size]? = some (.cells #[.int .i64 a0_0, .int .i64 a0_1, .int .i64 a0_2, .int .i64 a0_3, .int .i64 a0_4, .int .i64 a0_5, .string a0_6, .bool a0_7, .int .i64 a0_8, .int .i64 a0_9, .int .i64 a0_10, .string a0_11, .string a0_12, .int .i64 a0_13, .int .i64 a0_14, .int .i64 a0_15, .bool a0_16] 45 (0, 0)) := by
      rw [← hW]
      exact block_alloc (block_on HB.out hr0) _
     have HROW := Lib.hid hr
     have hv4 : W4.cell? ⟨w1.heap.size, 0, none⟩ = some (Value.func (Fn.func 169) #[] #[]) := by
      rw [← hW]
      exact cells1 Array.getElem?_push_size
     have HB4 : Hid (Below w.heap.size w W4) := Lib.hid (by rw [← hW]; exact s_alloc (s_trans (s_alloc (Below.refl _ _) _) HB.out) _)
     have HLE := Lib.hid HB4.out.size
     clear hW hr hr0 hc1 hz HB HC
     go_wp2_with (first | (refine wpList_load_row rfl 45 _ rfl _ rfl 45 _ (0, 0) _ HROW.out Tryz.underlying45 rfl (by kernel_rfl) ?_) | go_at_call 169; refine (EN.field_3_walk a0_0 a0_1 a0_2 a0_3 a0_4 a0_5 a0_6 a0_7 a0_8 a0_9 a0_10 a0_11 a0_12 a0_13 a0_14 a0_15 a0_16 _).mono ?_; rintro e w2 ⟨rfl, hb2⟩; have HB2 := Lib.hid hb2; clear hb2)
     all_goals
      go_ret2
      exact ⟨rfl, HB4.out.trans (HB2.out.mono HLE.out)⟩
    ·skip
     rw [if_neg c0, if_neg c1, if_neg c2, if_neg c3] at h
     obtain ⟨rfl, rfl⟩ := Prod.mk.inj (Option.some.inj h)
     have HC := Lib.hid (fun wx : World => EN.field_none a1 wx c0 c1 c2 c3)
     clear c0 c1 c2 c3
     go_enter Tryz.func101, Tryz.ntmps101
     go_wp2_with (go_at_call 134; refine (HC.out _).mono ?_; rintro e w1 ⟨rfl, hb⟩; have HB := Lib.hid hb; have hc1 := s_cell hb; have hz := s_lt hb; clear hb)
     go_ret2
     exact ⟨rfl, s_alloc (s_trans (s_alloc (Below.refl _ _) _) HB.out) _⟩
def entry_Tag.f (a0_0 : Int) (a0_1 : Int) (a0_2 : Int) (a0_3 : Int) (a0_4 : Int) (a0_5 : Int) (a0_6 : ByteArray) (a0_7 : Bool) (a0_8 : Int) (a0_9 : Int) (a0_10 : Int) (a0_11 : ByteArray) (a0_12 : ByteArray) (a0_13 : Int) (a0_14 : Int) (a0_15 : Int) (a0_16 : Bool) (a1 : ByteArray) : Option (Int × Bool) := if a1.toList = ([116, 114, 101, 97, 116] : List UInt8) then some (a0_9, true) else if a1.toList = ([114, 97, 116, 101] : List UInt8) then some (a0_10, true) else if a1.toList = ([115, 117, 112, 112, 108, 121] : List UInt8) then some (a0_8, true) else if a1.toList = ([115, 97, 108, 101] : List UInt8) then some (if a0_7 = true then 1 else 0, true) else if a1.toList = ([108, 97, 116, 101] : List UInt8) then (entry_Late.f a0_0 a0_1 a0_2 a0_3 a0_4 a0_5 a0_6 a0_7 a0_8 a0_9 a0_10 a0_11 a0_12 a0_13 a0_14 a0_15 a0_16).bind fun t => some (if t = true then 1 else 0, true) else if a1.toList = ([109, 105, 120, 101, 100] : List UInt8) then some (if a0_16 = true then 1 else 0, true) else some (0, false)
set_option maxHeartbeats 4000000 in
set_option maxRecDepth 100000 in
theorem entry_Tag.calls (a0_0 : Int) (a0_1 : Int) (a0_2 : Int) (a0_3 : Int) (a0_4 : Int) (a0_5 : Int) (a0_6 : ByteArray) (a0_7 : Bool) (a0_8 : Int) (a0_9 : Int) (a0_10 : Int) (a0_11 : ByteArray) (a0_12 : ByteArray) (a0_13 : Int) (a0_14 : Int) (a0_15 : Int) (a0_16 : Bool) (a1 : ByteArray) (r1 : Int) (r2 : Bool) (w : World) (h : entry_Tag.f a0_0 a0_1 a0_2 a0_3 a0_4 a0_5 a0_6 a0_7 a0_8 a0_9 a0_10 a0_11 a0_12 a0_13 a0_14 a0_15 a0_16 a1 = some (r1, r2)) :
 Calls Tryz.prog 66 #[.agg #[.int .i64 a0_0, .int .i64 a0_1, .int .i64 a0_2, .int .i64 a0_3, .int .i64 a0_4, .int .i64 a0_5, .string a0_6, .bool a0_7, .int .i64 a0_8, .int .i64 a0_9, .int .i64 a0_10, .string a0_11, .string a0_12, .int .i64 a0_13, .int .i64 a0_14, .int .i64 a0_15, .bool a0_16], .string a1] w fun e w' => e = .returned (.tuple #[.int .i64 r1, .bool r2]) ∧ Below w.heap.size w w' := by
 have hmf : ∀ (fn : Fn) (first cap : Array Value) (w : World), (Instr.makeFunc fn first cap).run Tryz.prog w = .ok (.func fn first cap) w := fun _ _ _ _ => rfl
 unfold entry_Tag.f at h
 by_cases c0 : a1.toList = ([116, 114, 101, 97, 116] : List UInt8)
 ·rw [if_pos c0] at h
  obtain ⟨rfl, rfl⟩ := Prod.mk.inj (Option.some.inj h)
  have HC := Lib.hid (fun wx : World => EN.tag_treat a1 wx c0)
  clear c0
  go_enter Tryz.func66, Tryz.ntmps66
  go_upto_region 4 with (go_at_call 114; refine (HC.out _).mono ?_; rintro e w1 ⟨rfl, hb⟩; have HB := Lib.hid hb; have hc1 := s_cell hb; have hz := s_lt hb; clear hb)
  generalize hW : w1.alloc (Obj.cells #[Value.func (Fn.func 141) #[] #[]] 138) = W4
  have hr0 : (w.alloc (Obj.cells #[Value.int IntKind.i64 a0_0, Value.int IntKind.i64 a0_1, Value.int IntKind.i64 a0_2, Value.int IntKind.i64 a0_3, Value.int IntKind.i64 a0_4, Value.int IntKind.i64 a0_5, Value.string a0_6, Value.bool a0_7, Value.int IntKind.i64 a0_8, Value.int IntKind.i64 a0_9, Value.int IntKind.i64 a0_10, Value.string a0_11, Value.string a0_12, Value.int IntKind.i64 a0_13, Value.int IntKind.i64 a0_14, Value.int IntKind.i64 a0_15, Value.bool a0_16] 45)).heap[w.heap.size]? = some (.cells #[.int .i64 a0_0, .int .i64 a0_1, .int .i64 a0_2, .int .i64 a0_3, .int .i64 a0_4, .int .i64 a0_5, .string a0_6, .bool a0_7, .int .i64 a0_8, .int .i64 a0_9, .int .i64 a0_10, .string a0_11, .string a0_12, .int .i64 a0_13, .int .i64 a0_14, .int .i64 a0_15, .bool a0_16] 45 (0, 0)) := Array.getElem?_push_size
  have hr : W4.heap[w.heap.size]? = some (.cells #[.int .i64 a0_0, .int .i64 a0_1, .int .i64 a0_2, .int .i64 a0_3, .int .i64 a0_4, .int .i64 a0_5, .string a0_6, .bool a0_7, .int .i64 a0_8, .int .i64 a0_9, .int .i64 a0_10, .string a0_11, .string a0_12, .int .i64 a0_13, .int .i64 a0_14, .int .i64 a0_15, .bool a0_16] 45 (0, 0)) := by
   rw [← hW]
   exact block_alloc (block_on HB.out hr0) _
  have HROW := Lib.hid hr
  have hv4 : W4.cell? ⟨w1.heap.size, 0, none⟩ = some (Value.func (Fn.func 141) #[] #[]) := by
   rw [← hW]
   exact cells1 Array.getElem?_push_size
  have HB4 : Hid (Below w.heap.size w W4) := Lib.hid (by rw [← hW]; exact s_alloc (s_trans (s_alloc (Below.refl _ _) _) HB.out) _)
  have HLE := Lib.hid HB4.out.size
  clear hW hr hr0 hc1 hz HB HC
  go_wp2_with (first | (refine wpList_load_row rfl 45 _ rfl _ rfl 45 _ (0, 0) _ HROW.out Tryz.underlying45 rfl (by kernel_rfl) ?_) | go_at_call 141; refine (EN.tag_1_walk a0_0 a0_1 a0_2 a0_3 a0_4 a0_5 a0_6 a0_7 a0_8 a0_9 a0_10 a0_11 a0_12 a0_13 a0_14 a0_15 a0_16 _).mono ?_; rintro e w2 ⟨rfl, hb2⟩; have HB2 := Lib.hid hb2; clear hb2)
  all_goals
   go_ret2
   exact ⟨rfl, HB4.out.trans (HB2.out.mono HLE.out)⟩
 ·skip
  by_cases c1 : a1.toList = ([114, 97, 116, 101] : List UInt8)
  ·rw [if_neg c0, if_pos c1] at h
   obtain ⟨rfl, rfl⟩ := Prod.mk.inj (Option.some.inj h)
   have HC := Lib.hid (fun wx : World => EN.tag_rate a1 wx c1)
   clear c0 c1
   go_enter Tryz.func66, Tryz.ntmps66
   go_upto_region 4 with (go_at_call 114; refine (HC.out _).mono ?_; rintro e w1 ⟨rfl, hb⟩; have HB := Lib.hid hb; have hc1 := s_cell hb; have hz := s_lt hb; clear hb)
   generalize hW : w1.alloc (Obj.cells #[Value.func (Fn.func 142) #[] #[]] 138) = W4
   have hr0 : (w.alloc (Obj.cells #[Value.int IntKind.i64 a0_0, Value.int IntKind.i64 a0_1, Value.int IntKind.i64 a0_2, Value.int IntKind.i64 a0_3, Value.int IntKind.i64 a0_4, Value.int IntKind.i64 a0_5, Value.string a0_6, Value.bool a0_7, Value.int IntKind.i64 a0_8, Value.int IntKind.i64 a0_9, Value.int IntKind.i64 a0_10, Value.string a0_11, Value.string a0_12, Value.int IntKind.i64 a0_13, Value.int IntKind.i64 a0_14, Value.int IntKind.i64 a0_15, Value.bool a0_16] 45)).heap[w.heap.size]? = some (.cells #[.int .i64 a0_0, .int .i64 a0_1, .int .i64 a0_2, .int .i64 a0_3, .int .i64 a0_4, .int .i64 a0_5, .string a0_6, .bool a0_7, .int .i64 a0_8, .int .i64 a0_9, .int .i64 a0_10, .string a0_11, .string a0_12, .int .i64 a0_13, .int .i64 a0_14, .int .i64 a0_15, .bool a0_16] 45 (0, 0)) := Array.getElem?_push_size
   have hr : W4.heap[w.heap.size]? = some (.cells #[.int .i64 a0_0, .int .i64 a0_1, .int .i64 a0_2, .int .i64 a0_3, .int .i64 a0_4, .int .i64 a0_5, .string a0_6, .bool a0_7, .int .i64 a0_8, .int .i64 a0_9, .int .i64 a0_10, .string a0_11, .string a0_12, .int .i64 a0_13, .int .i64 a0_14, .int .i64 a0_15, .bool a0_16] 45 (0, 0)) := by
    rw [← hW]
    exact block_alloc (block_on HB.out hr0) _
   have HROW := Lib.hid hr
   have hv4 : W4.cell? ⟨w1.heap.size, 0, none⟩ = some (Value.func (Fn.func 142) #[] #[]) := by
    rw [← hW]
    exact cells1 Array.getElem?_push_size
   have HB4 : Hid (Below w.heap.size w W4) := Lib.hid (by rw [← hW]; exact s_alloc (s_trans (s_alloc (Below.refl _ _) _) HB.out) _)
   have HLE := Lib.hid HB4.out.size
   clear hW hr hr0 hc1 hz HB HC
   go_wp2_with (first | (refine wpList_load_row rfl 45 _ rfl _ rfl 45 _ (0, 0) _ HROW.out Tryz.underlying45 rfl (by kernel_rfl) ?_) | go_at_call 142; refine (EN.tag_2_walk a0_0 a0_1 a0_2 a0_3 a0_4 a0_5 a0_6 a0_7 a0_8 a0_9 a0_10 a0_11 a0_12 a0_13 a0_14 a0_15 a0_16 _).mono ?_; rintro e w2 ⟨rfl, hb2⟩; have HB2 := Lib.hid hb2; clear hb2)
   all_goals
    go_ret2
    exact ⟨rfl, HB4.out.trans (HB2.out.mono HLE.out)⟩
  ·skip
   by_cases c2 : a1.toList = ([115, 117, 112, 112, 108, 121] : List UInt8)
   ·rw [if_neg c0, if_neg c1, if_pos c2] at h
    obtain ⟨rfl, rfl⟩ := Prod.mk.inj (Option.some.inj h)
    have HC := Lib.hid (fun wx : World => EN.tag_supply a1 wx c2)
    clear c0 c1 c2
    go_enter Tryz.func66, Tryz.ntmps66
    go_upto_region 4 with (go_at_call 114; refine (HC.out _).mono ?_; rintro e w1 ⟨rfl, hb⟩; have HB := Lib.hid hb; have hc1 := s_cell hb; have hz := s_lt hb; clear hb)
    generalize hW : w1.alloc (Obj.cells #[Value.func (Fn.func 143) #[] #[]] 138) = W4
    have hr0 : (w.alloc (Obj.cells #[Value.int IntKind.i64 a0_0, Value.int IntKind.i64 a0_1, Value.int IntKind.i64 a0_2, Value.int IntKind.i64 a0_3, Value.int IntKind.i64 a0_4, Value.int IntKind.i64 a0_5, Value.string a0_6, Value.bool a0_7, Value.int IntKind.i64 a0_8, Value.int IntKind.i64 a0_9, Value.int IntKind.i64 a0_10, Value.string a0_11, Value.string a0_12, Value.int IntKind.i64 a0_13, Value.int IntKind.i64 a0_14, Value.int IntKind.i64 a0_15, Value.bool a0_16] 45)).heap[w.heap.size]? = some (.cells #[.int .i64 a0_0, .int .i64 a0_1, .int .i64 a0_2, .int .i64 a0_3, .int .i64 a0_4, .int .i64 a0_5, .string a0_6, .bool a0_7, .int .i64 a0_8, .int .i64 a0_9, .int .i64 a0_10, .string a0_11, .string a0_12, .int .i64 a0_13, .int .i64 a0_14, .int .i64 a0_15, .bool a0_16] 45 (0, 0)) := Array.getElem?_push_size
    have hr : W4.heap[w.heap.size]? = some (.cells #[.int .i64 a0_0, .int .i64 a0_1, .int .i64 a0_2, .int .i64 a0_3, .int .i64 a0_4, .int .i64 a0_5, .string a0_6, .bool a0_7, .int .i64 a0_8, .int .i64 a0_9, .int .i64 a0_10, .string a0_11, .string a0_12, .int .i64 a0_13, .int .i64 a0_14, .int .i64 a0_15, .bool a0_16] 45 (0, 0)) := by
     rw [← hW]
     exact block_alloc (block_on HB.out hr0) _
    have HROW := Lib.hid hr
    have hv4 : W4.cell? ⟨w1.heap.size, 0, none⟩ = some (Value.func (Fn.func 143) #[] #[]) := by
     rw [← hW]
     exact cells1 Array.getElem?_push_size
    have HB4 : Hid (Below w.heap.size w W4) := Lib.hid (by rw [← hW]; exact s_alloc (s_trans (s_alloc (Below.refl _ _) _) HB.out) _)
    have HLE := Lib.hid HB4.out.size
    clear hW hr hr0 hc1 hz HB HC
    go_wp2_with (first | (refine wpList_load_row rfl 45 _ rfl _ rfl 45 _ (0, 0) _ HROW.out Tryz.underlying45 rfl (by kernel_rfl) ?_) | go_at_call 143; refine (EN.tag_3_walk a0_0 a0_1 a0_2 a0_3 a0_4 a0_5 a0_6 a0_7 a0_8 a0_9 a0_10 a0_11 a0_12 a0_13 a0_14 a0_15 a0_16 _).mono ?_; rintro e w2 ⟨rfl, hb2⟩; have HB2 := Lib.hid hb2; clear hb2)
    all_goals
     go_ret2
     exact ⟨rfl, HB4.out.trans (HB2.out.mono HLE.out)⟩
   ·skip
    by_cases c3 : a1.toList = ([115, 97, 108, 101] : List UInt8)
    ·rw [if_neg c0, if_neg c1, if_neg c2, if_pos c3] at h
     obtain ⟨rfl, rfl⟩ := Prod.mk.inj (Option.some.inj h)
     have HC := Lib.hid (fun wx : World => EN.tag_sale a1 wx c3)
     clear c0 c1 c2 c3
     go_enter Tryz.func66, Tryz.ntmps66
     go_upto_region 4 with (go_at_call 114; refine (HC.out _).mono ?_; rintro e w1 ⟨g, rfl, hg, hgg, hb⟩; have HB := Lib.hid hb; have hc1 := s_cell hb; have hz := s_lt hb; have HG := Lib.hid hg; have hlg := block_lt hg; clear hb hg)
     generalize hW : w1.alloc (Obj.cells #[Value.func (Fn.func 173) #[] #[Value.pointer (some { block := g, off := 0 })]] 138) = W4
     have hr0 : (w.alloc (Obj.cells #[Value.int IntKind.i64 a0_0, Value.int IntKind.i64 a0_1, Value.int IntKind.i64 a0_2, Value.int IntKind.i64 a0_3, Value.int IntKind.i64 a0_4, Value.int IntKind.i64 a0_5, Value.string a0_6, Value.bool a0_7, Value.int IntKind.i64 a0_8, Value.int IntKind.i64 a0_9, Value.int IntKind.i64 a0_10, Value.string a0_11, Value.string a0_12, Value.int IntKind.i64 a0_13, Value.int IntKind.i64 a0_14, Value.int IntKind.i64 a0_15, Value.bool a0_16] 45)).heap[w.heap.size]? = some (.cells #[.int .i64 a0_0, .int .i64 a0_1, .int .i64 a0_2, .int .i64 a0_3, .int .i64 a0_4, .int .i64 a0_5, .string a0_6, .bool a0_7, .int .i64 a0_8, .int .i64 a0_9, .int .i64 a0_10, .string a0_11, .string a0_12, .int .i64 a0_13, .int .i64 a0_14, .int .i64 a0_15, .bool a0_16] 45 (0, 0)) := Array.getElem?_push_size
     have hr : W4.heap[w.heap.size]? = some (.cells #[.int .i64 a0_0, .int .i64 a0_1, .int .i64 a0_2, .int .i64 a0_3, .int .i64 a0_4, .int .i64 a0_5, .string a0_6, .bool a0_7, .int .i64 a0_8, .int .i64 a0_9, .int .i64 a0_10, .string a0_11, .string a0_12, .int .i64 a0_13, .int .i64 a0_14, .int .i64 a0_15, .bool a0_16] 45 (0, 0)) := by
      rw [← hW]
      exact block_alloc (block_on HB.out hr0) _
     have HROW := Lib.hid hr
     have hv4 : W4.cell? ⟨w1.heap.size, 0, none⟩ = some (Value.func (Fn.func 173) #[] #[Value.pointer (some { block := g, off := 0 })]) := by
      rw [← hW]
      exact cells1 Array.getElem?_push_size
     have HB4 : Hid (Below w.heap.size w W4) := Lib.hid (by rw [← hW]; exact s_alloc (s_trans (s_alloc (Below.refl _ _) _) HB.out) _)
     have HG4 : Hid (W4.heap[g]? = some (.cells #[.func (.func 145) #[] #[]] 67 (0, 0))) := Lib.hid (by rw [← hW]; exact block_alloc HG.out _)
     have HLE := Lib.hid HB4.out.size
     clear hW hr hr0 hc1 hz HB HC
     go_wp2_with (first | (refine wpList_load_row rfl 45 _ rfl _ rfl 45 _ (0, 0) _ HROW.out Tryz.underlying45 rfl (by kernel_rfl) ?_) | go_at_call 173; refine (EN.bit1_tag_4 a0_0 a0_1 a0_2 a0_3 a0_4 a0_5 a0_6 a0_7 a0_8 a0_9 a0_10 a0_11 a0_12 a0_13 a0_14 a0_15 a0_16 _ g _ (fun wx => EN.tag_4_walk a0_0 a0_1 a0_2 a0_3 a0_4 a0_5 a0_6 a0_7 a0_8 a0_9 a0_10 a0_11 a0_12 a0_13 a0_14 a0_15 a0_16 wx) HG4.out).mono ?_; rintro e w2 ⟨rfl, hb2⟩; have HB2 := Lib.hid hb2; clear hb2)
     all_goals
      go_ret2
      exact ⟨rfl, HB4.out.trans (HB2.out.mono HLE.out)⟩
    ·skip
     by_cases c4 : a1.toList = ([108, 97, 116, 101] : List UInt8)
     ·rw [if_neg c0, if_neg c1, if_neg c2, if_neg c3, if_pos c4] at h
      obtain ⟨t, hO, h⟩ := Option.bind_eq_some_iff.1 h
      obtain ⟨rfl, rfl⟩ := Prod.mk.inj (Option.some.inj h)
      have HO := Lib.hid hO
      clear hO
      have HC := Lib.hid (fun wx : World => EN.tag_late a1 wx c4)
      clear c0 c1 c2 c3 c4
      go_enter Tryz.func66, Tryz.ntmps66
      go_upto_region 4 with (go_at_call 114; refine (HC.out _).mono ?_; rintro e w1 ⟨g, rfl, hg, hgg, hb⟩; have HB := Lib.hid hb; have hc1 := s_cell hb; have hz := s_lt hb; have HG := Lib.hid hg; have hlg := block_lt hg; clear hb hg)
      generalize hW : w1.alloc (Obj.cells #[Value.func (Fn.func 173) #[] #[Value.pointer (some { block := g, off := 0 })]] 138) = W4
      have hr0 : (w.alloc (Obj.cells #[Value.int IntKind.i64 a0_0, Value.int IntKind.i64 a0_1, Value.int IntKind.i64 a0_2, Value.int IntKind.i64 a0_3, Value.int IntKind.i64 a0_4, Value.int IntKind.i64 a0_5, Value.string a0_6, Value.bool a0_7, Value.int IntKind.i64 a0_8, Value.int IntKind.i64 a0_9, Value.int IntKind.i64 a0_10, Value.string a0_11, Value.string a0_12, Value.int IntKind.i64 a0_13, Value.int IntKind.i64 a0_14, Value.int IntKind.i64 a0_15, Value.bool a0_16] 45)).heap[w.heap.size]? = some (.cells #[.int .i64 a0_0, .int .i64 a0_1, .int .i64 a0_2, .int .i64 a0_3, .int .i64 a0_4, .int .i64 a0_5, .string a0_6, .bool a0_7, .int .i64 a0_8, .int .i64 a0_9, .int .i64 a0_10, .string a0_11, .string a0_12, .int .i64 a0_13, .int .i64 a0_14, .int .i64 a0_15, .bool a0_16] 45 (0, 0)) := Array.getElem?_push_size
      have hr : W4.heap[w.heap.size]? = some (.cells #[.int .i64 a0_0, .int .i64 a0_1, .int .i64 a0_2, .int .i64 a0_3, .int .i64 a0_4, .int .i64 a0_5, .string a0_6, .bool a0_7, .int .i64 a0_8, .int .i64 a0_9, .int .i64 a0_10, .string a0_11, .string a0_12, .int .i64 a0_13, .int .i64 a0_14, .int .i64 a0_15, .bool a0_16] 45 (0, 0)) := by
       rw [← hW]
       exact block_alloc (block_on HB.out hr0) _
      have HROW := Lib.hid hr
      have hv4 : W4.cell? ⟨w1.heap.size, 0, none⟩ = some (Value.func (Fn.func 173) #[] #[Value.pointer (some { block := g, off := 0 })]) := by
       rw [← hW]
       exact cells1 Array.getElem?_push_size
      have HB4 : Hid (Below w.heap.size w W4) := Lib.hid (by rw [← hW]; exact s_alloc (s_trans (s_alloc (Below.refl _ _) _) HB.out) _)
      have HG4 : Hid (W4.heap[g]? = some (.cells #[.func (.func 146) #[] #[]] 67 (0, 0))) := Lib.hid (by rw [← hW]; exact block_alloc HG.out _)
      have HLE := Lib.hid HB4.out.size
      clear hW hr hr0 hc1 hz HB HC
      go_wp2_with (first | (refine wpList_load_row rfl 45 _ rfl _ rfl 45 _ (0, 0) _ HROW.out Tryz.underlying45 rfl (by kernel_rfl) ?_) | go_at_call 173; refine (EN.bit1_late a0_0 a0_1 a0_2 a0_3 a0_4 a0_5 a0_6 a0_7 a0_8 a0_9 a0_10 a0_11 a0_12 a0_13 a0_14 a0_15 a0_16 _ g _ (fun wx => entry_Late.calls a0_0 a0_1 a0_2 a0_3 a0_4 a0_5 a0_6 a0_7 a0_8 a0_9 a0_10 a0_11 a0_12 a0_13 a0_14 a0_15 a0_16 _ wx HO.out) HG4.out).mono ?_; rintro e w2 ⟨rfl, hb2⟩; have HB2 := Lib.hid hb2; clear hb2)
      all_goals
       go_ret2
       exact ⟨rfl, HB4.out.trans (HB2.out.mono HLE.out)⟩
     ·skip
      by_cases c5 : a1.toList = ([109, 105, 120, 101, 100] : List UInt8)
      ·rw [if_neg c0, if_neg c1, if_neg c2, if_neg c3, if_neg c4, if_pos c5] at h
       obtain ⟨rfl, rfl⟩ := Prod.mk.inj (Option.some.inj h)
       have HC := Lib.hid (fun wx : World => EN.tag_mixed a1 wx c5)
       clear c0 c1 c2 c3 c4 c5
       go_enter Tryz.func66, Tryz.ntmps66
       go_upto_region 4 with (go_at_call 114; refine (HC.out _).mono ?_; rintro e w1 ⟨g, rfl, hg, hgg, hb⟩; have HB := Lib.hid hb; have hc1 := s_cell hb; have hz := s_lt hb; have HG := Lib.hid hg; have hlg := block_lt hg; clear hb hg)
       generalize hW : w1.alloc (Obj.cells #[Value.func (Fn.func 173) #[] #[Value.pointer (some { block := g, off := 0 })]] 138) = W4
       have hr0 : (w.alloc (Obj.cells #[Value.int IntKind.i64 a0_0, Value.int IntKind.i64 a0_1, Value.int IntKind.i64 a0_2, Value.int IntKind.i64 a0_3, Value.int IntKind.i64 a0_4, Value.int IntKind.i64 a0_5, Value.string a0_6, Value.bool a0_7, Value.int IntKind.i64 a0_8, Value.int IntKind.i64 a0_9, Value.int IntKind.i64 a0_10, Value.string a0_11, Value.string a0_12, Value.int IntKind.i64 a0_13, Value.int IntKind.i64 a0_14, Value.int IntKind.i64 a0_15, Value.bool a0_16] 45)).heap[w.heap.size]? = some (.cells #[.int .i64 a0_0, .int .i64 a0_1, .int .i64 a0_2, .int .i64 a0_3, .int .i64 a0_4, .int .i64 a0_5, .string a0_6, .bool a0_7, .int .i64 a0_8, .int .i64 a0_9, .int .i64 a0_10, .string a0_11, .string a0_12, .int .i64 a0_13, .int .i64 a0_14, .int .i64 a0_15, .bool a0_16] 45 (0, 0)) := Array.getElem?_push_size
       have hr : W4.heap[w.heap.size]? = some (.cells #[.int .i64 a0_0, .int .i64 a0_1, .int .i64 a0_2, .int .i64 a0_3, .int .i64 a0_4, .int .i64 a0_5, .string a0_6, .bool a0_7, .int .i64 a0_8, .int .i64 a0_9, .int .i64 a0_10, .string a0_11, .string a0_12, .int .i64 a0_13, .int .i64 a0_14, .int .i64 a0_15, .bool a0_16] 45 (0, 0)) := by
        rw [← hW]
        exact block_alloc (block_on HB.out hr0) _
       have HROW := Lib.hid hr
       have hv4 : W4.cell? ⟨w1.heap.size, 0, none⟩ = some (Value.func (Fn.func 173) #[] #[Value.pointer (some { block := g, off := 0 })]) := by
        rw [← hW]
        exact cells1 Array.getElem?_push_size
       have HB4 : Hid (Below w.heap.size w W4) := Lib.hid (by rw [← hW]; exact s_alloc (s_trans (s_alloc (Below.refl _ _) _) HB.out) _)
       have HG4 : Hid (W4.heap[g]? = some (.cells #[.func (.func 147) #[] #[]] 67 (0, 0))) := Lib.hid (by rw [← hW]; exact block_alloc HG.out _)
       have HLE := Lib.hid HB4.out.size
       clear hW hr hr0 hc1 hz HB HC
       go_wp2_with (first | (refine wpList_load_row rfl 45 _ rfl _ rfl 45 _ (0, 0) _ HROW.out Tryz.underlying45 rfl (by kernel_rfl) ?_) | go_at_call 173; refine (EN.bit1_tag_5 a0_0 a0_1 a0_2 a0_3 a0_4 a0_5 a0_6 a0_7 a0_8 a0_9 a0_10 a0_11 a0_12 a0_13 a0_14 a0_15 a0_16 _ g _ (fun wx => EN.tag_5_walk a0_0 a0_1 a0_2 a0_3 a0_4 a0_5 a0_6 a0_7 a0_8 a0_9 a0_10 a0_11 a0_12 a0_13 a0_14 a0_15 a0_16 wx) HG4.out).mono ?_; rintro e w2 ⟨rfl, hb2⟩; have HB2 := Lib.hid hb2; clear hb2)
       all_goals
        go_ret2
        exact ⟨rfl, HB4.out.trans (HB2.out.mono HLE.out)⟩
      ·skip
       rw [if_neg c0, if_neg c1, if_neg c2, if_neg c3, if_neg c4, if_neg c5] at h
       obtain ⟨rfl, rfl⟩ := Prod.mk.inj (Option.some.inj h)
       have HC := Lib.hid (fun wx : World => EN.tag_none a1 wx c0 c1 c2 c3 c4 c5)
       clear c0 c1 c2 c3 c4 c5
       go_enter Tryz.func66, Tryz.ntmps66
       go_wp2_with (go_at_call 114; refine (HC.out _).mono ?_; rintro e w1 ⟨rfl, hb⟩; have HB := Lib.hid hb; have hc1 := s_cell hb; have hz := s_lt hb; clear hb)
       go_ret2
       exact ⟨rfl, s_alloc (s_trans (s_alloc (Below.refl _ _) _) HB.out) _⟩
end Go.Proofs.YtnaglnifpejpjaaGreatDoor.XEvalRuns
