-- WRITTEN BY wip/xprint.py (my own wrapper round the print, with contracts of my own in it)
import Derived.Test.YtlciddgncngniaaDoorXEntryNamesx0
import Derived.Test.YtlciddgncngniaaDoorXEntryNamesx1
import Derived.Test.YtlciddgncngniaaDoorXEntryNamesx2
namespace Go.Proofs.YtlciddgncngniaaDoor.XEntryNames
open Go.RowKit Go.Proofs.YtlciddgncngniaaDoorW.PrintWords Go.Proofs.YtlciddgncngniaaDoorW.PrintLast Go.Proofs.YtlciddgncngniaaDoorW.PrintMore
attribute [local go_sem] max2_int min2_int max_two min_two max_three min_three max_four min_four   -- for this text's walks alone
set_option linter.unusedVariables false
set_option linter.unusedSimpArgs false

attribute [local go_sem high] eqA23
/-! ### entry_Tag: function 29 (by hand) -/
open Go.Proofs.YtlciddgncngniaaDoorK Go.Proofs.YtlciddgncngniaaDoor.BX
def entry_Tag.f (a0_0 : Int) (a0_1 : Int) (a0_2 : Int) (a0_3 : Int) (a0_4 : Int) (a0_5 : Int) (a0_6 : ByteArray) (a0_7 : Bool) (a0_8 : Int) (a0_9 : Int) (a0_10 : Int) (a0_11 : ByteArray) (a0_12 : ByteArray) (a0_13 : Int) (a0_14 : Int) (a0_15 : Int) (a0_16 : Bool) (a1 : ByteArray) : Option (Int × Bool) := if a1.toList = ([116, 114, 101, 97, 116] : List UInt8) then some (a0_9, true) else if a1.toList = ([114, 97, 116, 101] : List UInt8) then some (a0_10, true) else if a1.toList = ([115, 117, 112, 112, 108, 121] : List UInt8) then some (a0_8, true) else if a1.toList = ([115, 97, 108, 101] : List UInt8) then some (if a0_7 = true then 1 else 0, true) else if a1.toList = ([108, 97, 116, 101] : List UInt8) then (entry_Late.f a0_0 a0_1 a0_2 a0_3 a0_4 a0_5 a0_6 a0_7 a0_8 a0_9 a0_10 a0_11 a0_12 a0_13 a0_14 a0_15 a0_16).bind fun t => some (if t = true then 1 else 0, true) else if a1.toList = ([109, 105, 120, 101, 100] : List UInt8) then some (if a0_16 = true then 1 else 0, true) else some (0, false)
set_option maxHeartbeats 4000000 in
set_option maxRecDepth 100000 in
theorem entry_Tag.calls (a0_0 : Int) (a0_1 : Int) (a0_2 : Int) (a0_3 : Int) (a0_4 : Int) (a0_5 : Int) (a0_6 : ByteArray) (a0_7 : Bool) (a0_8 : Int) (a0_9 : Int) (a0_10 : Int) (a0_11 : ByteArray) (a0_12 : ByteArray) (a0_13 : Int) (a0_14 : Int) (a0_15 : Int) (a0_16 : Bool) (a1 : ByteArray) (r1 : Int) (r2 : Bool) (w : World) (h : entry_Tag.f a0_0 a0_1 a0_2 a0_3 a0_4 a0_5 a0_6 a0_7 a0_8 a0_9 a0_10 a0_11 a0_12 a0_13 a0_14 a0_15 a0_16 a1 = some (r1, r2)) :
    Calls Tryd.prog 29 #[.agg #[.int .i64 a0_0, .int .i64 a0_1, .int .i64 a0_2, .int .i64 a0_3, .int .i64 a0_4, .int .i64 a0_5, .string a0_6, .bool a0_7, .int .i64 a0_8, .int .i64 a0_9, .int .i64 a0_10, .string a0_11, .string a0_12, .int .i64 a0_13, .int .i64 a0_14, .int .i64 a0_15, .bool a0_16], .string a1] w fun e w' => e = .returned (.tuple #[.int .i64 r1, .bool r2]) ∧ Below w.heap.size w w' := by
  have hmf : ∀ (fn : Fn) (first cap : Array Value) (w : World), (Instr.makeFunc fn first cap).run Tryd.prog w = .ok (.func fn first cap) w := fun _ _ _ _ => rfl
  unfold entry_Tag.f at h
  by_cases c0 : a1.toList = ([116, 114, 101, 97, 116] : List UInt8)
  · rw [if_pos c0] at h
    obtain ⟨rfl, rfl⟩ := Prod.mk.inj (Option.some.inj h)
    have HC := Lib.hid (fun wx : World => EN.tag_treat a1 wx c0)
    clear c0
    go_enter Tryd.func29, Tryd.ntmps29
    go_upto_region 4 with (go_at_call 69; refine (HC.out _).mono ?_; rintro e w1 ⟨rfl, hb⟩; have HB := Lib.hid hb; have hc1 := s_cell hb; have hz := s_lt hb; clear hb)
    generalize hW : w1.alloc (Obj.cells #[Value.func (Fn.func 101) #[] #[]] 106) = W4
    have hr0 : (w.alloc (Obj.cells #[Value.int IntKind.i64 a0_0, Value.int IntKind.i64 a0_1, Value.int IntKind.i64 a0_2, Value.int IntKind.i64 a0_3, Value.int IntKind.i64 a0_4, Value.int IntKind.i64 a0_5, Value.string a0_6, Value.bool a0_7, Value.int IntKind.i64 a0_8, Value.int IntKind.i64 a0_9, Value.int IntKind.i64 a0_10, Value.string a0_11, Value.string a0_12, Value.int IntKind.i64 a0_13, Value.int IntKind.i64 a0_14, Value.int IntKind.i64 a0_15, Value.bool a0_16] 25)).heap[w.heap.size]? = some (.cells #[.int .i64 a0_0, .int .i64 a0_1, .int .i64 a0_2, .int .i64 a0_3, .int .i64 a0_4, .int .i64 a0_5, .string a0_6, .bool a0_7, .int .i64 a0_8, .int .i64 a0_9, .int .i64 a0_10, .string a0_11, .string a0_12, .int .i64 a0_13, .int .i64 a0_14, .int .i64 a0_15, .bool a0_16] 25 (0, 0)) := Array.getElem?_push_size
    have hr : W4.heap[w.heap.size]? = some (.cells #[.int .i64 a0_0, .int .i64 a0_1, .int .i64 a0_2, .int .i64 a0_3, .int .i64 a0_4, .int .i64 a0_5, .string a0_6, .bool a0_7, .int .i64 a0_8, .int .i64 a0_9, .int .i64 a0_10, .string a0_11, .string a0_12, .int .i64 a0_13, .int .i64 a0_14, .int .i64 a0_15, .bool a0_16] 25 (0, 0)) := by
      rw [← hW]
      exact block_alloc (block_on HB.out hr0) _
    have HROW := Lib.hid hr
    have hv4 : W4.cell? ⟨w1.heap.size, 0, none⟩ = some (Value.func (Fn.func 101) #[] #[]) := by
      rw [← hW]
      exact cells1 Array.getElem?_push_size
    have HB4 : Hid (Below w.heap.size w W4) := Lib.hid (by rw [← hW]; exact s_alloc (s_trans (s_alloc (Below.refl _ _) _) HB.out) _)
    have HLE := Lib.hid HB4.out.size
    clear hW hr hr0 hc1 hz HB HC
    go_wp2_with (first | (refine wpList_load_row rfl 25 _ rfl _ rfl 25 _ (0, 0) _ HROW.out Tryd.underlying25 rfl (by kernel_rfl) ?_) | go_at_call 101; refine (EN.tag_1_walk a0_0 a0_1 a0_2 a0_3 a0_4 a0_5 a0_6 a0_7 a0_8 a0_9 a0_10 a0_11 a0_12 a0_13 a0_14 a0_15 a0_16 _).mono ?_; rintro e w2 ⟨rfl, hb2⟩; have HB2 := Lib.hid hb2; clear hb2)
    all_goals
      go_ret2
      exact ⟨rfl, HB4.out.trans (HB2.out.mono HLE.out)⟩
  · skip
    by_cases c1 : a1.toList = ([114, 97, 116, 101] : List UInt8)
    · rw [if_neg c0, if_pos c1] at h
      obtain ⟨rfl, rfl⟩ := Prod.mk.inj (Option.some.inj h)
      have HC := Lib.hid (fun wx : World => EN.tag_rate a1 wx c1)
      clear c0 c1
      go_enter Tryd.func29, Tryd.ntmps29
      go_upto_region 4 with (go_at_call 69; refine (HC.out _).mono ?_; rintro e w1 ⟨rfl, hb⟩; have HB := Lib.hid hb; have hc1 := s_cell hb; have hz := s_lt hb; clear hb)
      generalize hW : w1.alloc (Obj.cells #[Value.func (Fn.func 102) #[] #[]] 106) = W4
      have hr0 : (w.alloc (Obj.cells #[Value.int IntKind.i64 a0_0, Value.int IntKind.i64 a0_1, Value.int IntKind.i64 a0_2, Value.int IntKind.i64 a0_3, Value.int IntKind.i64 a0_4, Value.int IntKind.i64 a0_5, Value.string a0_6, Value.bool a0_7, Value.int IntKind.i64 a0_8, Value.int IntKind.i64 a0_9, Value.int IntKind.i64 a0_10, Value.string a0_11, Value.string a0_12, Value.int IntKind.i64 a0_13, Value.int IntKind.i64 a0_14, Value.int IntKind.i64 a0_15, Value.bool a0_16] 25)).heap[w.heap.size]? = some (.cells #[.int .i64 a0_0, .int .i64 a0_1, .int .i64 a0_2, .int .i64 a0_3, .int .i64 a0_4, .int .i64 a0_5, .string a0_6, .bool a0_7, .int .i64 a0_8, .int .i64 a0_9, .int .i64 a0_10, .string a0_11, .string a0_12, .int .i64 a0_13, .int .i64 a0_14, .int .i64 a0_15, .bool a0_16] 25 (0, 0)) := Array.getElem?_push_size
      have hr : W4.heap[w.heap.size]? = some (.cells #[.int .i64 a0_0, .int .i64 a0_1, .int .i64 a0_2, .int .i64 a0_3, .int .i64 a0_4, .int .i64 a0_5, .string a0_6, .bool a0_7, .int .i64 a0_8, .int .i64 a0_9, .int .i64 a0_10, .string a0_11, .string a0_12, .int .i64 a0_13, .int .i64 a0_14, .int .i64 a0_15, .bool a0_16] 25 (0, 0)) := by
        rw [← hW]
        exact block_alloc (block_on HB.out hr0) _
      have HROW := Lib.hid hr
      have hv4 : W4.cell? ⟨w1.heap.size, 0, none⟩ = some (Value.func (Fn.func 102) #[] #[]) := by
        rw [← hW]
        exact cells1 Array.getElem?_push_size
      have HB4 : Hid (Below w.heap.size w W4) := Lib.hid (by rw [← hW]; exact s_alloc (s_trans (s_alloc (Below.refl _ _) _) HB.out) _)
      have HLE := Lib.hid HB4.out.size
      clear hW hr hr0 hc1 hz HB HC
      go_wp2_with (first | (refine wpList_load_row rfl 25 _ rfl _ rfl 25 _ (0, 0) _ HROW.out Tryd.underlying25 rfl (by kernel_rfl) ?_) | go_at_call 102; refine (EN.tag_2_walk a0_0 a0_1 a0_2 a0_3 a0_4 a0_5 a0_6 a0_7 a0_8 a0_9 a0_10 a0_11 a0_12 a0_13 a0_14 a0_15 a0_16 _).mono ?_; rintro e w2 ⟨rfl, hb2⟩; have HB2 := Lib.hid hb2; clear hb2)
      all_goals
        go_ret2
        exact ⟨rfl, HB4.out.trans (HB2.out.mono HLE.out)⟩
    · skip
      by_cases c2 : a1.toList = ([115, 117, 112, 112, 108, 121] : List UInt8)
      · rw [if_neg c0, if_neg c1, if_pos c2] at h
        obtain ⟨rfl, rfl⟩ := Prod.mk.inj (Option.some.inj h)
        have HC := Lib.hid (fun wx : World => EN.tag_supply a1 wx c2)
        clear c0 c1 c2
        go_enter Tryd.func29, Tryd.ntmps29
        go_upto_region 4 with (go_at_call 69; refine (HC.out _).mono ?_; rintro e w1 ⟨rfl, hb⟩; have HB := Lib.hid hb; have hc1 := s_cell hb; have hz := s_lt hb; clear hb)
        generalize hW : w1.alloc (Obj.cells #[Value.func (Fn.func 103) #[] #[]] 106) = W4
        have hr0 : (w.alloc (Obj.cells #[Value.int IntKind.i64 a0_0, Value.int IntKind.i64 a0_1, Value.int IntKind.i64 a0_2, Value.int IntKind.i64 a0_3, Value.int IntKind.i64 a0_4, Value.int IntKind.i64 a0_5, Value.string a0_6, Value.bool a0_7, Value.int IntKind.i64 a0_8, Value.int IntKind.i64 a0_9, Value.int IntKind.i64 a0_10, Value.string a0_11, Value.string a0_12, Value.int IntKind.i64 a0_13, Value.int IntKind.i64 a0_14, Value.int IntKind.i64 a0_15, Value.bool a0_16] 25)).heap[w.heap.size]? = some (.cells #[.int .i64 a0_0, .int .i64 a0_1, .int .i64 a0_2, .int .i64 a0_3, .int .i64 a0_4, .int .i64 a0_5, .string a0_6, .bool a0_7, .int .i64 a0_8, .int .i64 a0_9, .int .i64 a0_10, .string a0_11, .string a0_12, .int .i64 a0_13, .int .i64 a0_14, .int .i64 a0_15, .bool a0_16] 25 (0, 0)) := Array.getElem?_push_size
        have hr : W4.heap[w.heap.size]? = some (.cells #[.int .i64 a0_0, .int .i64 a0_1, .int .i64 a0_2, .int .i64 a0_3, .int .i64 a0_4, .int .i64 a0_5, .string a0_6, .bool a0_7, .int .i64 a0_8, .int .i64 a0_9, .int .i64 a0_10, .string a0_11, .string a0_12, .int .i64 a0_13, .int .i64 a0_14, .int .i64 a0_15, .bool a0_16] 25 (0, 0)) := by
          rw [← hW]
          exact block_alloc (block_on HB.out hr0) _
        have HROW := Lib.hid hr
        have hv4 : W4.cell? ⟨w1.heap.size, 0, none⟩ = some (Value.func (Fn.func 103) #[] #[]) := by
          rw [← hW]
          exact cells1 Array.getElem?_push_size
        have HB4 : Hid (Below w.heap.size w W4) := Lib.hid (by rw [← hW]; exact s_alloc (s_trans (s_alloc (Below.refl _ _) _) HB.out) _)
        have HLE := Lib.hid HB4.out.size
        clear hW hr hr0 hc1 hz HB HC
        go_wp2_with (first | (refine wpList_load_row rfl 25 _ rfl _ rfl 25 _ (0, 0) _ HROW.out Tryd.underlying25 rfl (by kernel_rfl) ?_) | go_at_call 103; refine (EN.tag_3_walk a0_0 a0_1 a0_2 a0_3 a0_4 a0_5 a0_6 a0_7 a0_8 a0_9 a0_10 a0_11 a0_12 a0_13 a0_14 a0_15 a0_16 _).mono ?_; rintro e w2 ⟨rfl, hb2⟩; have HB2 := Lib.hid hb2; clear hb2)
        all_goals
          go_ret2
          exact ⟨rfl, HB4.out.trans (HB2.out.mono HLE.out)⟩
      · skip
        by_cases c3 : a1.toList = ([115, 97, 108, 101] : List UInt8)
        · rw [if_neg c0, if_neg c1, if_neg c2, if_pos c3] at h
          obtain ⟨rfl, rfl⟩ := Prod.mk.inj (Option.some.inj h)
          have HC := Lib.hid (fun wx : World => EN.tag_sale a1 wx c3)
          clear c0 c1 c2 c3
          go_enter Tryd.func29, Tryd.ntmps29
          go_upto_region 4 with (go_at_call 69; refine (HC.out _).mono ?_; rintro e w1 ⟨g, rfl, hg, hgg, hb⟩; have HB := Lib.hid hb; have hc1 := s_cell hb; have hz := s_lt hb; have HG := Lib.hid hg; have hlg := block_lt hg; clear hb hg)
          generalize hW : w1.alloc (Obj.cells #[Value.func (Fn.func 125) #[] #[Value.pointer (some { block := g, off := 0 })]] 106) = W4
          have hr0 : (w.alloc (Obj.cells #[Value.int IntKind.i64 a0_0, Value.int IntKind.i64 a0_1, Value.int IntKind.i64 a0_2, Value.int IntKind.i64 a0_3, Value.int IntKind.i64 a0_4, Value.int IntKind.i64 a0_5, Value.string a0_6, Value.bool a0_7, Value.int IntKind.i64 a0_8, Value.int IntKind.i64 a0_9, Value.int IntKind.i64 a0_10, Value.string a0_11, Value.string a0_12, Value.int IntKind.i64 a0_13, Value.int IntKind.i64 a0_14, Value.int IntKind.i64 a0_15, Value.bool a0_16] 25)).heap[w.heap.size]? = some (.cells #[.int .i64 a0_0, .int .i64 a0_1, .int .i64 a0_2, .int .i64 a0_3, .int .i64 a0_4, .int .i64 a0_5, .string a0_6, .bool a0_7, .int .i64 a0_8, .int .i64 a0_9, .int .i64 a0_10, .string a0_11, .string a0_12, .int .i64 a0_13, .int .i64 a0_14, .int .i64 a0_15, .bool a0_16] 25 (0, 0)) := Array.getElem?_push_size
          have hr : W4.heap[w.heap.size]? = some (.cells #[.int .i64 a0_0, .int .i64 a0_1, .int .i64 a0_2, .int .i64 a0_3, .int .i64 a0_4, .int .i64 a0_5, .string a0_6, .bool a0_7, .int .i64 a0_8, .int .i64 a0_9, .int .i64 a0_10, .string a0_11, .string a0_12, .int .i64 a0_13, .int .i64 a0_14, .int .i64 a0_15, .bool a0_16] 25 (0, 0)) := by
            rw [← hW]
            exact block_alloc (block_on HB.out hr0) _
          have HROW := Lib.hid hr
          have hv4 : W4.cell? ⟨w1.heap.size, 0, none⟩ = some (Value.func (Fn.func 125) #[] #[Value.pointer (some { block := g, off := 0 })]) := by
            rw [← hW]
            exact cells1 Array.getElem?_push_size
          have HB4 : Hid (Below w.heap.size w W4) := Lib.hid (by rw [← hW]; exact s_alloc (s_trans (s_alloc (Below.refl _ _) _) HB.out) _)
          have HG4 : Hid (W4.heap[g]? = some (.cells #[.func (.func 105) #[] #[]] 26 (0, 0))) := Lib.hid (by rw [← hW]; exact block_alloc HG.out _)
          have HLE := Lib.hid HB4.out.size
          clear hW hr hr0 hc1 hz HB HC
          go_wp2_with (first | (refine wpList_load_row rfl 25 _ rfl _ rfl 25 _ (0, 0) _ HROW.out Tryd.underlying25 rfl (by kernel_rfl) ?_) | go_at_call 125; refine (EN.bit1_tag_4 a0_0 a0_1 a0_2 a0_3 a0_4 a0_5 a0_6 a0_7 a0_8 a0_9 a0_10 a0_11 a0_12 a0_13 a0_14 a0_15 a0_16 _ g _ (fun wx => EN.tag_4_walk a0_0 a0_1 a0_2 a0_3 a0_4 a0_5 a0_6 a0_7 a0_8 a0_9 a0_10 a0_11 a0_12 a0_13 a0_14 a0_15 a0_16 wx) HG4.out).mono ?_; rintro e w2 ⟨rfl, hb2⟩; have HB2 := Lib.hid hb2; clear hb2)
          all_goals
            go_ret2
            exact ⟨rfl, HB4.out.trans (HB2.out.mono HLE.out)⟩
        · skip
          by_cases c4 : a1.toList = ([108, 97, 116, 101] : List UInt8)
          · rw [if_neg c0, if_neg c1, if_neg c2, if_neg c3, if_pos c4] at h
            obtain ⟨t, hO, h⟩ := Option.bind_eq_some_iff.1 h
            obtain ⟨rfl, rfl⟩ := Prod.mk.inj (Option.some.inj h)
            have HO := Lib.hid hO
            clear hO
            have HC := Lib.hid (fun wx : World => EN.tag_late a1 wx c4)
            clear c0 c1 c2 c3 c4
            go_enter Tryd.func29, Tryd.ntmps29
            go_upto_region 4 with (go_at_call 69; refine (HC.out _).mono ?_; rintro e w1 ⟨g, rfl, hg, hgg, hb⟩; have HB := Lib.hid hb; have hc1 := s_cell hb; have hz := s_lt hb; have HG := Lib.hid hg; have hlg := block_lt hg; clear hb hg)
            generalize hW : w1.alloc (Obj.cells #[Value.func (Fn.func 125) #[] #[Value.pointer (some { block := g, off := 0 })]] 106) = W4
            have hr0 : (w.alloc (Obj.cells #[Value.int IntKind.i64 a0_0, Value.int IntKind.i64 a0_1, Value.int IntKind.i64 a0_2, Value.int IntKind.i64 a0_3, Value.int IntKind.i64 a0_4, Value.int IntKind.i64 a0_5, Value.string a0_6, Value.bool a0_7, Value.int IntKind.i64 a0_8, Value.int IntKind.i64 a0_9, Value.int IntKind.i64 a0_10, Value.string a0_11, Value.string a0_12, Value.int IntKind.i64 a0_13, Value.int IntKind.i64 a0_14, Value.int IntKind.i64 a0_15, Value.bool a0_16] 25)).heap[w.heap.size]? = some (.cells #[.int .i64 a0_0, .int .i64 a0_1, .int .i64 a0_2, .int .i64 a0_3, .int .i64 a0_4, .int .i64 a0_5, .string a0_6, .bool a0_7, .int .i64 a0_8, .int .i64 a0_9, .int .i64 a0_10, .string a0_11, .string a0_12, .int .i64 a0_13, .int .i64 a0_14, .int .i64 a0_15, .bool a0_16] 25 (0, 0)) := Array.getElem?_push_size
            have hr : W4.heap[w.heap.size]? = some (.cells #[.int .i64 a0_0, .int .i64 a0_1, .int .i64 a0_2, .int .i64 a0_3, .int .i64 a0_4, .int .i64 a0_5, .string a0_6, .bool a0_7, .int .i64 a0_8, .int .i64 a0_9, .int .i64 a0_10, .string a0_11, .string a0_12, .int .i64 a0_13, .int .i64 a0_14, .int .i64 a0_15, .bool a0_16] 25 (0, 0)) := by
              rw [← hW]
              exact block_alloc (block_on HB.out hr0) _
            have HROW := Lib.hid hr
            have hv4 : W4.cell? ⟨w1.heap.size, 0, none⟩ = some (Value.func (Fn.func 125) #[] #[Value.pointer (some { block := g, off := 0 })]) := by
              rw [← hW]
              exact cells1 Array.getElem?_push_size
            have HB4 : Hid (Below w.heap.size w W4) := Lib.hid (by rw [← hW]; exact s_alloc (s_trans (s_alloc (Below.refl _ _) _) HB.out) _)
            have HG4 : Hid (W4.heap[g]? = some (.cells #[.func (.func 31) #[] #[]] 26 (0, 0))) := Lib.hid (by rw [← hW]; exact block_alloc HG.out _)
            have HLE := Lib.hid HB4.out.size
            clear hW hr hr0 hc1 hz HB HC
            go_wp2_with (first | (refine wpList_load_row rfl 25 _ rfl _ rfl 25 _ (0, 0) _ HROW.out Tryd.underlying25 rfl (by kernel_rfl) ?_) | go_at_call 125; refine (EN.bit1_late a0_0 a0_1 a0_2 a0_3 a0_4 a0_5 a0_6 a0_7 a0_8 a0_9 a0_10 a0_11 a0_12 a0_13 a0_14 a0_15 a0_16 _ g _ (fun wx => entry_Late.calls a0_0 a0_1 a0_2 a0_3 a0_4 a0_5 a0_6 a0_7 a0_8 a0_9 a0_10 a0_11 a0_12 a0_13 a0_14 a0_15 a0_16 _ wx HO.out) HG4.out).mono ?_; rintro e w2 ⟨rfl, hb2⟩; have HB2 := Lib.hid hb2; clear hb2)
            all_goals
              go_ret2
              exact ⟨rfl, HB4.out.trans (HB2.out.mono HLE.out)⟩
          · skip
            by_cases c5 : a1.toList = ([109, 105, 120, 101, 100] : List UInt8)
            · rw [if_neg c0, if_neg c1, if_neg c2, if_neg c3, if_neg c4, if_pos c5] at h
              obtain ⟨rfl, rfl⟩ := Prod.mk.inj (Option.some.inj h)
              have HC := Lib.hid (fun wx : World => EN.tag_mixed a1 wx c5)
              clear c0 c1 c2 c3 c4 c5
              go_enter Tryd.func29, Tryd.ntmps29
              go_upto_region 4 with (go_at_call 69; refine (HC.out _).mono ?_; rintro e w1 ⟨g, rfl, hg, hgg, hb⟩; have HB := Lib.hid hb; have hc1 := s_cell hb; have hz := s_lt hb; have HG := Lib.hid hg; have hlg := block_lt hg; clear hb hg)
              generalize hW : w1.alloc (Obj.cells #[Value.func (Fn.func 125) #[] #[Value.pointer (some { block := g, off := 0 })]] 106) = W4
              have hr0 : (w.alloc (Obj.cells #[Value.int IntKind.i64 a0_0, Value.int IntKind.i64 a0_1, Value.int IntKind.i64 a0_2, Value.int IntKind.i64 a0_3, Value.int IntKind.i64 a0_4, Value.int IntKind.i64 a0_5, Value.string a0_6, Value.bool a0_7, Value.int IntKind.i64 a0_8, Value.int IntKind.i64 a0_9, Value.int IntKind.i64 a0_10, Value.string a0_11, Value.string a0_12, Value.int IntKind.i64 a0_13, Value.int IntKind.i64 a0_14, Value.int IntKind.i64 a0_15, Value.bool a0_16] 25)).heap[w.heap.size]? = some (.cells #[.int .i64 a0_0, .int .i64 a0_1, .int .i64 a0_2, .int .i64 a0_3, .int .i64 a0_4, .int .i64 a0_5, .string a0_6, .bool a0_7, .int .i64 a0_8, .int .i64 a0_9, .int .i64 a0_10, .string a0_11, .string a0_12, .int .i64 a0_13, .int .i64 a0_14, .int .i64 a0_15, .bool a0_16] 25 (0, 0)) := Array.getElem?_push_size
              have hr : W4.heap[w.heap.size]? = some (.cells #[.int .i64 a0_0, .int .i64 a0_1, .int .i64 a0_2, .int .i64 a0_3, .int .i64 a0_4, .int .i64 a0_5, .string a0_6, .bool a0_7, .int .i64 a0_8, .int .i64 a0_9, .int .i64 a0_10, .string a0_11, .string a0_12, .int .i64 a0_13, .int .i64 a0_14, .int .i64 a0_15, .bool a0_16] 25 (0, 0)) := by
                rw [← hW]
                exact block_alloc (block_on HB.out hr0) _
              have HROW := Lib.hid hr
              have hv4 : W4.cell? ⟨w1.heap.size, 0, none⟩ = some (Value.func (Fn.func 125) #[] #[Value.pointer (some { block := g, off := 0 })]) := by
                rw [← hW]
                exact cells1 Array.getElem?_push_size
              have HB4 : Hid (Below w.heap.size w W4) := Lib.hid (by rw [← hW]; exact s_alloc (s_trans (s_alloc (Below.refl _ _) _) HB.out) _)
              have HG4 : Hid (W4.heap[g]? = some (.cells #[.func (.func 106) #[] #[]] 26 (0, 0))) := Lib.hid (by rw [← hW]; exact block_alloc HG.out _)
              have HLE := Lib.hid HB4.out.size
              clear hW hr hr0 hc1 hz HB HC
              go_wp2_with (first | (refine wpList_load_row rfl 25 _ rfl _ rfl 25 _ (0, 0) _ HROW.out Tryd.underlying25 rfl (by kernel_rfl) ?_) | go_at_call 125; refine (EN.bit1_tag_5 a0_0 a0_1 a0_2 a0_3 a0_4 a0_5 a0_6 a0_7 a0_8 a0_9 a0_10 a0_11 a0_12 a0_13 a0_14 a0_15 a0_16 _ g _ (fun wx => EN.tag_5_walk a0_0 a0_1 a0_2 a0_3 a0_4 a0_5 a0_6 a0_7 a0_8 a0_9 a0_10 a0_11 a0_12 a0_13 a0_14 a0_15 a0_16 wx) HG4.out).mono ?_; rintro e w2 ⟨rfl, hb2⟩; have HB2 := Lib.hid hb2; clear hb2)
              all_goals
                go_ret2
                exact ⟨rfl, HB4.out.trans (HB2.out.mono HLE.out)⟩
            · skip
              rw [if_neg c0, if_neg c1, if_neg c2, if_neg c3, if_neg c4, if_neg c5] at h
              obtain ⟨rfl, rfl⟩ := Prod.mk.inj (Option.some.inj h)
              have HC := Lib.hid (fun wx : World => EN.tag_none a1 wx c0 c1 c2 c3 c4 c5)
              clear c0 c1 c2 c3 c4 c5
              go_enter Tryd.func29, Tryd.ntmps29
              go_wp2_with (go_at_call 69; refine (HC.out _).mono ?_; rintro e w1 ⟨rfl, hb⟩; have HB := Lib.hid hb; have hc1 := s_cell hb; have hz := s_lt hb; clear hb)
              go_ret2
              exact ⟨rfl, s_alloc (s_trans (s_alloc (Below.refl _ _) _) HB.out) _⟩

/-! ### octroiref25_Late: function 32 -/
def octroiref25_Late.f (a0_0 : Int) (a0_1 : Int) (a0_2 : Int) (a0_3 : Int) (a0_4 : Int) (a0_5 : Int) (a0_6 : ByteArray) (a0_7 : Bool) (a0_8 : Int) (a0_9 : Int) (a0_10 : Int) (a0_11 : ByteArray) (a0_12 : ByteArray) (a0_13 : Int) (a0_14 : Int) (a0_15 : Int) (a0_16 : Bool) : Option (Bool) := some (!(a0_0 == a0_3) || (!(a0_1 == a0_4) || (!(a0_2 == a0_5))))
set_option maxHeartbeats 8000000 in
set_option maxRecDepth 100000 in
theorem octroiref25_Late.calls (a0_0 : Int) (a0_1 : Int) (a0_2 : Int) (a0_3 : Int) (a0_4 : Int) (a0_5 : Int) (a0_6 : ByteArray) (a0_7 : Bool) (a0_8 : Int) (a0_9 : Int) (a0_10 : Int) (a0_11 : ByteArray) (a0_12 : ByteArray) (a0_13 : Int) (a0_14 : Int) (a0_15 : Int) (a0_16 : Bool) (r : Bool) (w : World) (h : octroiref25_Late.f a0_0 a0_1 a0_2 a0_3 a0_4 a0_5 a0_6 a0_7 a0_8 a0_9 a0_10 a0_11 a0_12 a0_13 a0_14 a0_15 a0_16 = some r) :
    Calls Tryd.prog 32 #[.agg #[.int .i64 a0_0, .int .i64 a0_1, .int .i64 a0_2, .int .i64 a0_3, .int .i64 a0_4, .int .i64 a0_5, .string a0_6, .bool a0_7, .int .i64 a0_8, .int .i64 a0_9, .int .i64 a0_10, .string a0_11, .string a0_12, .int .i64 a0_13, .int .i64 a0_14, .int .i64 a0_15, .bool a0_16]] w fun e w' => e = .returned (.bool r) ∧ Below w.heap.size w w' := by
  have hu25 := Tryd.underlying25
  have hu23 := Tryd.underlying23
  have HB := Aside0.mk (Below.refl w.heap.size w)
  have H : (some (!(a0_0 == a0_3) || (!(a0_1 == a0_4) || (!(a0_2 == a0_5))))) = some r := h
  clear h
  obtain rfl := Option.some.inj H
  go_enter Tryd.func32, Tryd.ntmps32
  go_wp2_with (first | ((with_reducible refine gate_dst (N := 1) rfl ?_); refine box_event ?hg (N := 1) ?hd (cs := #[.int .i64 a0_0, .int .i64 a0_1, .int .i64 a0_2, .int .i64 a0_3, .int .i64 a0_4, .int .i64 a0_5, .string a0_6, .bool a0_7, .int .i64 a0_8, .int .i64 a0_9, .int .i64 a0_10, .string a0_11, .string a0_12, .int .i64 a0_13, .int .i64 a0_14, .int .i64 a0_15, .bool a0_16]) (t := 25) ?hr ?_; (case hd => rfl); (case hg => rfl); (case hr => first | (go_simp; done) | (go_simp; rfl)); intro gb133 hg w2 hbox hb; have n0_ := Aside0.mk (below_step (by repeat (first | (with_reducible first | exact HB.out | apply below_alloc | apply pw_below_drewN | apply below_drew1) | exact HB.out)) hb); have n1_ := Aside0.mk (hbox); have n2_ := Aside0.mk ((by rw [hg]; exact (below_size (by repeat (first | (with_reducible first | exact HB.out | apply below_alloc | apply pw_below_drewN | apply below_drew1) | exact HB.out))) : w.heap.size ≤ gb133)); have n3_ := Aside0.mk ((by rw [hg]; exact (below_size (by repeat (first | (with_reducible first | exact HB.out | apply below_alloc | apply pw_below_drewN | apply below_drew1) | exact HB.out))) : w.heap.size ≤ gb133)); clear HB; have HB := n0_; have BK133 := n1_; have GW133 := n2_; have GE133 := n3_; clear n0_ n1_ n2_ n3_; clear hb hbox hg; have hcz3_0 : w2.cell? ⟨gb133, 0, none⟩ = some (.int .i64 a0_0) := (blk_cell BK133.out 0).trans rfl; have hcz3_1 : w2.cell? ⟨gb133, 1, none⟩ = some (.int .i64 a0_1) := (blk_cell BK133.out 1).trans rfl; have hcz3_2 : w2.cell? ⟨gb133, 2, none⟩ = some (.int .i64 a0_2) := (blk_cell BK133.out 2).trans rfl; have hcz3_3 : w2.cell? ⟨gb133, 3, none⟩ = some (.int .i64 a0_3) := (blk_cell BK133.out 3).trans rfl; have hcz3_4 : w2.cell? ⟨gb133, 4, none⟩ = some (.int .i64 a0_4) := (blk_cell BK133.out 4).trans rfl; have hcz3_5 : w2.cell? ⟨gb133, 5, none⟩ = some (.int .i64 a0_5) := (blk_cell BK133.out 5).trans rfl; have hcz3_6 : w2.cell? ⟨gb133, 6, none⟩ = some (.string a0_6) := (blk_cell BK133.out 6).trans rfl; have hcz3_7 : w2.cell? ⟨gb133, 7, none⟩ = some (.bool a0_7) := (blk_cell BK133.out 7).trans rfl; have hcz3_8 : w2.cell? ⟨gb133, 8, none⟩ = some (.int .i64 a0_8) := (blk_cell BK133.out 8).trans rfl; have hcz3_9 : w2.cell? ⟨gb133, 9, none⟩ = some (.int .i64 a0_9) := (blk_cell BK133.out 9).trans rfl; have hcz3_10 : w2.cell? ⟨gb133, 10, none⟩ = some (.int .i64 a0_10) := (blk_cell BK133.out 10).trans rfl; have hcz3_11 : w2.cell? ⟨gb133, 11, none⟩ = some (.string a0_11) := (blk_cell BK133.out 11).trans rfl; have hcz3_12 : w2.cell? ⟨gb133, 12, none⟩ = some (.string a0_12) := (blk_cell BK133.out 12).trans rfl; have hcz3_13 : w2.cell? ⟨gb133, 13, none⟩ = some (.int .i64 a0_13) := (blk_cell BK133.out 13).trans rfl; have hcz3_14 : w2.cell? ⟨gb133, 14, none⟩ = some (.int .i64 a0_14) := (blk_cell BK133.out 14).trans rfl; have hcz3_15 : w2.cell? ⟨gb133, 15, none⟩ = some (.int .i64 a0_15) := (blk_cell BK133.out 15).trans rfl; have hcz3_16 : w2.cell? ⟨gb133, 16, none⟩ = some (.bool a0_16) := (blk_cell BK133.out 16).trans rfl; have hfz3_0 := blk_frozen BK133.out 0; have hfz3_1 := blk_frozen BK133.out 1; have hfz3_2 := blk_frozen BK133.out 2; have hfz3_3 := blk_frozen BK133.out 3; have hfz3_4 := blk_frozen BK133.out 4; have hfz3_5 := blk_frozen BK133.out 5; have hfz3_6 := blk_frozen BK133.out 6; have hfz3_7 := blk_frozen BK133.out 7; have hfz3_8 := blk_frozen BK133.out 8; have hfz3_9 := blk_frozen BK133.out 9; have hfz3_10 := blk_frozen BK133.out 10; have hfz3_11 := blk_frozen BK133.out 11; have hfz3_12 := blk_frozen BK133.out 12; have hfz3_13 := blk_frozen BK133.out 13; have hfz3_14 := blk_frozen BK133.out 14; have hfz3_15 := blk_frozen BK133.out 15; have hfz3_16 := blk_frozen BK133.out 16))
  go_ret
  exact ⟨by first | rfl | (simp [errW_none, errW_some] <;> rfl) | (simp [*, errW_none, errW_some] <;> rfl), by repeat (first | (with_reducible first | exact HB.out | apply below_alloc | apply pw_below_drewN | apply below_drew1 | refine below_set ?_ GE133.out) | exact HB.out)⟩

/-! ### octroiref25_one: function 70 -/
def octroiref25_one.f (a0 : Bool) : Option (Int) := if a0 = true then (some 1) else (some 0)
set_option maxHeartbeats 8000000 in
set_option maxRecDepth 100000 in
theorem octroiref25_one.calls (a0 : Bool) (r : Int) (w : World) (h : octroiref25_one.f a0 = some r) :
    Calls Tryd.prog 70 #[.bool a0] w fun e w' => e = .returned (.int .i64 r) ∧ Drawn0 w w' := by
  have H : (if a0 = true then (some 1) else (some 0)) = some r := h
  clear h
  by_cases c2 : a0 = true
  · subst c2
    have H1 : (some 1) = some r := by rw [if_pos rfl] at H; exact H
    clear H
    have H := H1
    clear H1
    obtain rfl := Option.some.inj H
    go_enter Tryd.func70, Tryd.ntmps70
    go_wp2
    go_ret
    exact ⟨by first | rfl | (simp; done) | (simp [*]; done), by repeat (first | exact Drawn0.refl _ | apply Drawn0.step)⟩
  · replace c2 := Bool.eq_false_iff.mpr c2
    subst c2
    have H1 : (some 0) = some r := by rw [if_neg (show ¬ (false = true) by decide)] at H; exact H
    clear H
    have H := H1
    clear H1
    obtain rfl := Option.some.inj H
    go_enter Tryd.func70, Tryd.ntmps70
    go_wp2
    go_ret
    exact ⟨by first | rfl | (simp; done) | (simp [*]; done), by repeat (first | exact Drawn0.refl _ | apply Drawn0.step)⟩

/-! ### octroiref25_Tag: function 30 -/
def octroiref25_Tag.f (a0_0 : Int) (a0_1 : Int) (a0_2 : Int) (a0_3 : Int) (a0_4 : Int) (a0_5 : Int) (a0_6 : ByteArray) (a0_7 : Bool) (a0_8 : Int) (a0_9 : Int) (a0_10 : Int) (a0_11 : ByteArray) (a0_12 : ByteArray) (a0_13 : Int) (a0_14 : Int) (a0_15 : Int) (a0_16 : Bool) (a1 : ByteArray) : Option (Int × Bool) := if a1.toList = ([116, 114, 101, 97, 116] : List UInt8) then (some (a0_9, true)) else (if a1.toList = ([114, 97, 116, 101] : List UInt8) then (some (a0_10, true)) else (if a1.toList = ([115, 117, 112, 112, 108, 121] : List UInt8) then (some (a0_8, true)) else (if a1.toList = ([115, 97, 108, 101] : List UInt8) then ((octroiref25_one.f a0_7).bind fun t135 => (some (t135, true))) else (if a1.toList = ([108, 97, 116, 101] : List UInt8) then ((octroiref25_Late.f a0_0 a0_1 a0_2 a0_3 a0_4 a0_5 a0_6 a0_7 a0_8 a0_9 a0_10 a0_11 a0_12 a0_13 a0_14 a0_15 a0_16).bind fun t136 => ((octroiref25_one.f t136).bind fun t137 => (some (t137, true)))) else (if a1.toList = ([109, 105, 120, 101, 100] : List UInt8) then ((octroiref25_one.f a0_16).bind fun t138 => (some (t138, true))) else (some (0, false)))))))
set_option maxHeartbeats 8000000 in
set_option maxRecDepth 100000 in
theorem octroiref25_Tag.calls (a0_0 : Int) (a0_1 : Int) (a0_2 : Int) (a0_3 : Int) (a0_4 : Int) (a0_5 : Int) (a0_6 : ByteArray) (a0_7 : Bool) (a0_8 : Int) (a0_9 : Int) (a0_10 : Int) (a0_11 : ByteArray) (a0_12 : ByteArray) (a0_13 : Int) (a0_14 : Int) (a0_15 : Int) (a0_16 : Bool) (a1 : ByteArray) (r1 : Int) (r2 : Bool) (w : World) (h : octroiref25_Tag.f a0_0 a0_1 a0_2 a0_3 a0_4 a0_5 a0_6 a0_7 a0_8 a0_9 a0_10 a0_11 a0_12 a0_13 a0_14 a0_15 a0_16 a1 = some (r1, r2)) :
    Calls Tryd.prog 30 #[.agg #[.int .i64 a0_0, .int .i64 a0_1, .int .i64 a0_2, .int .i64 a0_3, .int .i64 a0_4, .int .i64 a0_5, .string a0_6, .bool a0_7, .int .i64 a0_8, .int .i64 a0_9, .int .i64 a0_10, .string a0_11, .string a0_12, .int .i64 a0_13, .int .i64 a0_14, .int .i64 a0_15, .bool a0_16], .string a1] w fun e w' => e = .returned (.tuple #[.int .i64 r1, .bool r2]) ∧ Below w.heap.size w w' := by
  have hu25 := Tryd.underlying25
  have HB := Aside0.mk (Below.refl w.heap.size w)
  have H : (if a1.toList = ([116, 114, 101, 97, 116] : List UInt8) then (some (a0_9, true)) else (if a1.toList = ([114, 97, 116, 101] : List UInt8) then (some (a0_10, true)) else (if a1.toList = ([115, 117, 112, 112, 108, 121] : List UInt8) then (some (a0_8, true)) else (if a1.toList = ([115, 97, 108, 101] : List UInt8) then ((octroiref25_one.f a0_7).bind fun t135 => (some (t135, true))) else (if a1.toList = ([108, 97, 116, 101] : List UInt8) then ((octroiref25_Late.f a0_0 a0_1 a0_2 a0_3 a0_4 a0_5 a0_6 a0_7 a0_8 a0_9 a0_10 a0_11 a0_12 a0_13 a0_14 a0_15 a0_16).bind fun t136 => ((octroiref25_one.f t136).bind fun t137 => (some (t137, true)))) else (if a1.toList = ([109, 105, 120, 101, 100] : List UInt8) then ((octroiref25_one.f a0_16).bind fun t138 => (some (t138, true))) else (some (0, false)))))))) = some (r1, r2) := h
  clear h
  by_cases c3 : a1.toList = ([116, 114, 101, 97, 116] : List UInt8)
  · rw [if_pos c3] at H
    have c3b0 : (a1.toList == ([116, 114, 101, 97, 116] : List UInt8)) = true := beq_iff_eq.mpr c3
    have c3b1 : (a1.toList != ([116, 114, 101, 97, 116] : List UInt8)) = false := bne_eq_false_iff_eq.mpr c3
    clear c3
    simp only [Option.some.injEq, Prod.mk.injEq] at H
    obtain ⟨rfl, rfl⟩ := H
    go_enter Tryd.func30, Tryd.ntmps30
    go_wp2_with (first | ((first | (with_reducible refine gate_dst (N := 26) rfl ?_)); (try (refine gate_guard (by rfl) ?_; dsimp only)); apply RowTake.wpl_row (ty := 25) (hu := Tryd.underlying25) (hd := rfl); (case hgd => rfl); (case ho => rfl); (case hx => rfl); (case hg => repeat (first | exact Aside0.out (by with_reducible assumption) | refine blk_drewN ?_ _ | refine blk_drew ?_ | refine blk_alloc ?_ _)); (case hi => kernel_rfl)) | ((with_reducible refine gate_dst (N := 2) rfl ?_); refine box_event ?hg (N := 2) ?hd (cs := #[.int .i64 a0_0, .int .i64 a0_1, .int .i64 a0_2, .int .i64 a0_3, .int .i64 a0_4, .int .i64 a0_5, .string a0_6, .bool a0_7, .int .i64 a0_8, .int .i64 a0_9, .int .i64 a0_10, .string a0_11, .string a0_12, .int .i64 a0_13, .int .i64 a0_14, .int .i64 a0_15, .bool a0_16]) (t := 25) ?hr ?_; (case hd => rfl); (case hg => rfl); (case hr => first | (go_simp; done) | (go_simp; rfl)); intro gb134 hg w4 hbox hb; have n0_ := Aside0.mk (below_step (by repeat (first | (with_reducible first | exact HB.out | apply below_alloc | apply pw_below_drewN | apply below_drew1) | exact HB.out)) hb); have n1_ := Aside0.mk (hbox); have n2_ := Aside0.mk ((by rw [hg]; exact (below_size (by repeat (first | (with_reducible first | exact HB.out | apply below_alloc | apply pw_below_drewN | apply below_drew1) | exact HB.out))) : w.heap.size ≤ gb134)); have n3_ := Aside0.mk ((by rw [hg]; exact (below_size (by repeat (first | (with_reducible first | exact HB.out | apply below_alloc | apply pw_below_drewN | apply below_drew1) | exact HB.out))) : w.heap.size ≤ gb134)); clear HB; have HB := n0_; have BK134 := n1_; have GW134 := n2_; have GE134 := n3_; clear n0_ n1_ n2_ n3_; clear hb hbox hg; have hcz5_7 : w4.cell? ⟨gb134, 7, none⟩ = some (.bool a0_7) := (blk_cell BK134.out 7).trans rfl; have hcz5_8 : w4.cell? ⟨gb134, 8, none⟩ = some (.int .i64 a0_8) := (blk_cell BK134.out 8).trans rfl; have hcz5_9 : w4.cell? ⟨gb134, 9, none⟩ = some (.int .i64 a0_9) := (blk_cell BK134.out 9).trans rfl; have hcz5_10 : w4.cell? ⟨gb134, 10, none⟩ = some (.int .i64 a0_10) := (blk_cell BK134.out 10).trans rfl; have hcz5_16 : w4.cell? ⟨gb134, 16, none⟩ = some (.bool a0_16) := (blk_cell BK134.out 16).trans rfl; have hfz5_7 := blk_frozen BK134.out 7; have hfz5_8 := blk_frozen BK134.out 8; have hfz5_9 := blk_frozen BK134.out 9; have hfz5_10 := blk_frozen BK134.out 10; have hfz5_16 := blk_frozen BK134.out 16))
    go_ret2
    exact ⟨by first | rfl | (simp [errW_none, errW_some] <;> rfl) | (simp [*, errW_none, errW_some] <;> rfl), by repeat (first | (with_reducible first | exact HB.out | apply below_alloc | apply pw_below_drewN | apply below_drew1 | refine below_set ?_ GE134.out) | exact HB.out)⟩
  · rw [if_neg c3] at H
    have c3b0 : (a1.toList == ([116, 114, 101, 97, 116] : List UInt8)) = false := beq_eq_false_iff_ne.mpr c3
    have c3b1 : (a1.toList != ([116, 114, 101, 97, 116] : List UInt8)) = true := bne_iff_ne.mpr c3
    by_cases c6 : a1.toList = ([114, 97, 116, 101] : List UInt8)
    · rw [if_pos c6] at H
      have c6b0 : (a1.toList == ([114, 97, 116, 101] : List UInt8)) = true := beq_iff_eq.mpr c6
      have c6b1 : (a1.toList != ([114, 97, 116, 101] : List UInt8)) = false := bne_eq_false_iff_eq.mpr c6
      clear c6
      simp only [Option.some.injEq, Prod.mk.injEq] at H
      obtain ⟨rfl, rfl⟩ := H
      go_enter Tryd.func30, Tryd.ntmps30
      go_wp2_with (first | ((first | (with_reducible refine gate_dst (N := 26) rfl ?_)); (try (refine gate_guard (by rfl) ?_; dsimp only)); apply RowTake.wpl_row (ty := 25) (hu := Tryd.underlying25) (hd := rfl); (case hgd => rfl); (case ho => rfl); (case hx => rfl); (case hg => repeat (first | exact Aside0.out (by with_reducible assumption) | refine blk_drewN ?_ _ | refine blk_drew ?_ | refine blk_alloc ?_ _)); (case hi => kernel_rfl)) | ((with_reducible refine gate_dst (N := 2) rfl ?_); refine box_event ?hg (N := 2) ?hd (cs := #[.int .i64 a0_0, .int .i64 a0_1, .int .i64 a0_2, .int .i64 a0_3, .int .i64 a0_4, .int .i64 a0_5, .string a0_6, .bool a0_7, .int .i64 a0_8, .int .i64 a0_9, .int .i64 a0_10, .string a0_11, .string a0_12, .int .i64 a0_13, .int .i64 a0_14, .int .i64 a0_15, .bool a0_16]) (t := 25) ?hr ?_; (case hd => rfl); (case hg => rfl); (case hr => first | (go_simp; done) | (go_simp; rfl)); intro gb134 hg w7 hbox hb; have n0_ := Aside0.mk (below_step (by repeat (first | (with_reducible first | exact HB.out | apply below_alloc | apply pw_below_drewN | apply below_drew1) | exact HB.out)) hb); have n1_ := Aside0.mk (hbox); have n2_ := Aside0.mk ((by rw [hg]; exact (below_size (by repeat (first | (with_reducible first | exact HB.out | apply below_alloc | apply pw_below_drewN | apply below_drew1) | exact HB.out))) : w.heap.size ≤ gb134)); have n3_ := Aside0.mk ((by rw [hg]; exact (below_size (by repeat (first | (with_reducible first | exact HB.out | apply below_alloc | apply pw_below_drewN | apply below_drew1) | exact HB.out))) : w.heap.size ≤ gb134)); clear HB; have HB := n0_; have BK134 := n1_; have GW134 := n2_; have GE134 := n3_; clear n0_ n1_ n2_ n3_; clear hb hbox hg; have hcz8_7 : w7.cell? ⟨gb134, 7, none⟩ = some (.bool a0_7) := (blk_cell BK134.out 7).trans rfl; have hcz8_8 : w7.cell? ⟨gb134, 8, none⟩ = some (.int .i64 a0_8) := (blk_cell BK134.out 8).trans rfl; have hcz8_9 : w7.cell? ⟨gb134, 9, none⟩ = some (.int .i64 a0_9) := (blk_cell BK134.out 9).trans rfl; have hcz8_10 : w7.cell? ⟨gb134, 10, none⟩ = some (.int .i64 a0_10) := (blk_cell BK134.out 10).trans rfl; have hcz8_16 : w7.cell? ⟨gb134, 16, none⟩ = some (.bool a0_16) := (blk_cell BK134.out 16).trans rfl; have hfz8_7 := blk_frozen BK134.out 7; have hfz8_8 := blk_frozen BK134.out 8; have hfz8_9 := blk_frozen BK134.out 9; have hfz8_10 := blk_frozen BK134.out 10; have hfz8_16 := blk_frozen BK134.out 16))
      go_ret2
      exact ⟨by first | rfl | (simp [errW_none, errW_some] <;> rfl) | (simp [*, errW_none, errW_some] <;> rfl), by repeat (first | (with_reducible first | exact HB.out | apply below_alloc | apply pw_below_drewN | apply below_drew1 | refine below_set ?_ GE134.out) | exact HB.out)⟩
    · rw [if_neg c6] at H
      have c6b0 : (a1.toList == ([114, 97, 116, 101] : List UInt8)) = false := beq_eq_false_iff_ne.mpr c6
      have c6b1 : (a1.toList != ([114, 97, 116, 101] : List UInt8)) = true := bne_iff_ne.mpr c6
      by_cases c9 : a1.toList = ([115, 117, 112, 112, 108, 121] : List UInt8)
      · rw [if_pos c9] at H
        have c9b0 : (a1.toList == ([115, 117, 112, 112, 108, 121] : List UInt8)) = true := beq_iff_eq.mpr c9
        have c9b1 : (a1.toList != ([115, 117, 112, 112, 108, 121] : List UInt8)) = false := bne_eq_false_iff_eq.mpr c9
        clear c9
        simp only [Option.some.injEq, Prod.mk.injEq] at H
        obtain ⟨rfl, rfl⟩ := H
        go_enter Tryd.func30, Tryd.ntmps30
        go_wp2_with (first | ((first | (with_reducible refine gate_dst (N := 26) rfl ?_)); (try (refine gate_guard (by rfl) ?_; dsimp only)); apply RowTake.wpl_row (ty := 25) (hu := Tryd.underlying25) (hd := rfl); (case hgd => rfl); (case ho => rfl); (case hx => rfl); (case hg => repeat (first | exact Aside0.out (by with_reducible assumption) | refine blk_drewN ?_ _ | refine blk_drew ?_ | refine blk_alloc ?_ _)); (case hi => kernel_rfl)) | ((with_reducible refine gate_dst (N := 2) rfl ?_); refine box_event ?hg (N := 2) ?hd (cs := #[.int .i64 a0_0, .int .i64 a0_1, .int .i64 a0_2, .int .i64 a0_3, .int .i64 a0_4, .int .i64 a0_5, .string a0_6, .bool a0_7, .int .i64 a0_8, .int .i64 a0_9, .int .i64 a0_10, .string a0_11, .string a0_12, .int .i64 a0_13, .int .i64 a0_14, .int .i64 a0_15, .bool a0_16]) (t := 25) ?hr ?_; (case hd => rfl); (case hg => rfl); (case hr => first | (go_simp; done) | (go_simp; rfl)); intro gb134 hg w10 hbox hb; have n0_ := Aside0.mk (below_step (by repeat (first | (with_reducible first | exact HB.out | apply below_alloc | apply pw_below_drewN | apply below_drew1) | exact HB.out)) hb); have n1_ := Aside0.mk (hbox); have n2_ := Aside0.mk ((by rw [hg]; exact (below_size (by repeat (first | (with_reducible first | exact HB.out | apply below_alloc | apply pw_below_drewN | apply below_drew1) | exact HB.out))) : w.heap.size ≤ gb134)); have n3_ := Aside0.mk ((by rw [hg]; exact (below_size (by repeat (first | (with_reducible first | exact HB.out | apply below_alloc | apply pw_below_drewN | apply below_drew1) | exact HB.out))) : w.heap.size ≤ gb134)); clear HB; have HB := n0_; have BK134 := n1_; have GW134 := n2_; have GE134 := n3_; clear n0_ n1_ n2_ n3_; clear hb hbox hg; have hcz11_7 : w10.cell? ⟨gb134, 7, none⟩ = some (.bool a0_7) := (blk_cell BK134.out 7).trans rfl; have hcz11_8 : w10.cell? ⟨gb134, 8, none⟩ = some (.int .i64 a0_8) := (blk_cell BK134.out 8).trans rfl; have hcz11_9 : w10.cell? ⟨gb134, 9, none⟩ = some (.int .i64 a0_9) := (blk_cell BK134.out 9).trans rfl; have hcz11_10 : w10.cell? ⟨gb134, 10, none⟩ = some (.int .i64 a0_10) := (blk_cell BK134.out 10).trans rfl; have hcz11_16 : w10.cell? ⟨gb134, 16, none⟩ = some (.bool a0_16) := (blk_cell BK134.out 16).trans rfl; have hfz11_7 := blk_frozen BK134.out 7; have hfz11_8 := blk_frozen BK134.out 8; have hfz11_9 := blk_frozen BK134.out 9; have hfz11_10 := blk_frozen BK134.out 10; have hfz11_16 := blk_frozen BK134.out 16))
        go_ret2
        exact ⟨by first | rfl | (simp [errW_none, errW_some] <;> rfl) | (simp [*, errW_none, errW_some] <;> rfl), by repeat (first | (with_reducible first | exact HB.out | apply below_alloc | apply pw_below_drewN | apply below_drew1 | refine below_set ?_ GE134.out) | exact HB.out)⟩
      · rw [if_neg c9] at H
        have c9b0 : (a1.toList == ([115, 117, 112, 112, 108, 121] : List UInt8)) = false := beq_eq_false_iff_ne.mpr c9
        have c9b1 : (a1.toList != ([115, 117, 112, 112, 108, 121] : List UInt8)) = true := bne_iff_ne.mpr c9
        by_cases c12 : a1.toList = ([115, 97, 108, 101] : List UInt8)
        · rw [if_pos c12] at H
          have c12b0 : (a1.toList == ([115, 97, 108, 101] : List UInt8)) = true := beq_iff_eq.mpr c12
          have c12b1 : (a1.toList != ([115, 97, 108, 101] : List UInt8)) = false := bne_eq_false_iff_eq.mpr c12
          clear c12
          replace H := Option.bind_eq_some_iff.mp H
          obtain ⟨t135, A130, H⟩ := H
          replace H : (some (t135, true)) = some (r1, r2) := H
          have A13 := Aside0.mk A130
          clear A130
          simp only [Option.some.injEq, Prod.mk.injEq] at H
          obtain ⟨rfl, rfl⟩ := H
          go_enter Tryd.func30, Tryd.ntmps30
          go_wp2_with (first | ((first | (with_reducible refine gate_dst (N := 26) rfl ?_)); (try (refine gate_guard (by rfl) ?_; dsimp only)); apply RowTake.wpl_row (ty := 25) (hu := Tryd.underlying25) (hd := rfl); (case hgd => rfl); (case ho => rfl); (case hx => rfl); (case hg => repeat (first | exact Aside0.out (by with_reducible assumption) | refine blk_drewN ?_ _ | refine blk_drew ?_ | refine blk_alloc ?_ _)); (case hi => kernel_rfl)) | ((with_reducible refine gate_dst (N := 2) rfl ?_); refine box_event ?hg (N := 2) ?hd (cs := #[.int .i64 a0_0, .int .i64 a0_1, .int .i64 a0_2, .int .i64 a0_3, .int .i64 a0_4, .int .i64 a0_5, .string a0_6, .bool a0_7, .int .i64 a0_8, .int .i64 a0_9, .int .i64 a0_10, .string a0_11, .string a0_12, .int .i64 a0_13, .int .i64 a0_14, .int .i64 a0_15, .bool a0_16]) (t := 25) ?hr ?_; (case hd => rfl); (case hg => rfl); (case hr => first | (go_simp; done) | (go_simp; rfl)); intro gb134 hg w14 hbox hb; have n0_ := Aside0.mk (below_step (by repeat (first | (with_reducible first | exact HB.out | apply below_alloc | apply pw_below_drewN | apply below_drew1) | exact HB.out)) hb); have n1_ := Aside0.mk (hbox); have n2_ := Aside0.mk ((by rw [hg]; exact (below_size (by repeat (first | (with_reducible first | exact HB.out | apply below_alloc | apply pw_below_drewN | apply below_drew1) | exact HB.out))) : w.heap.size ≤ gb134)); have n3_ := Aside0.mk ((by rw [hg]; exact (below_size (by repeat (first | (with_reducible first | exact HB.out | apply below_alloc | apply pw_below_drewN | apply below_drew1) | exact HB.out))) : w.heap.size ≤ gb134)); clear HB; have HB := n0_; have BK134 := n1_; have GW134 := n2_; have GE134 := n3_; clear n0_ n1_ n2_ n3_; clear hb hbox hg; have hcz15_7 : w14.cell? ⟨gb134, 7, none⟩ = some (.bool a0_7) := (blk_cell BK134.out 7).trans rfl; have hcz15_8 : w14.cell? ⟨gb134, 8, none⟩ = some (.int .i64 a0_8) := (blk_cell BK134.out 8).trans rfl; have hcz15_9 : w14.cell? ⟨gb134, 9, none⟩ = some (.int .i64 a0_9) := (blk_cell BK134.out 9).trans rfl; have hcz15_10 : w14.cell? ⟨gb134, 10, none⟩ = some (.int .i64 a0_10) := (blk_cell BK134.out 10).trans rfl; have hcz15_16 : w14.cell? ⟨gb134, 16, none⟩ = some (.bool a0_16) := (blk_cell BK134.out 16).trans rfl; have hfz15_7 := blk_frozen BK134.out 7; have hfz15_8 := blk_frozen BK134.out 8; have hfz15_9 := blk_frozen BK134.out 9; have hfz15_10 := blk_frozen BK134.out 10; have hfz15_16 := blk_frozen BK134.out 16) | ((with_reducible refine gate_callee (f := 70) rfl ?_); refine goesL_ (some 23) rfl rfl Tryd.func70 (by kernel_rfl) rfl #[.bool a0_7] rfl (by (try simp only [List.map_toArray, List.map_cons, List.map_nil]); first | done | rfl | (simp only [List.length_drop, List.length_take]; rfl)) ?_; (with_reducible refine (octroiref25_one.calls a0_7 t135 _ A13.out).mono ?_); rintro e w' ⟨rfl, ⟨nd, rfl⟩⟩; refine ⟨_, rfl, ?_⟩))
          go_ret2
          exact ⟨by first | rfl | (simp [errW_none, errW_some] <;> rfl) | (simp [*, errW_none, errW_some] <;> rfl), by repeat (first | (with_reducible first | exact HB.out | apply below_alloc | apply pw_below_drewN | apply below_drew1 | refine below_set ?_ GE134.out) | exact HB.out)⟩
        · rw [if_neg c12] at H
          have c12b0 : (a1.toList == ([115, 97, 108, 101] : List UInt8)) = false := beq_eq_false_iff_ne.mpr c12
          have c12b1 : (a1.toList != ([115, 97, 108, 101] : List UInt8)) = true := bne_iff_ne.mpr c12
          by_cases c16 : a1.toList = ([108, 97, 116, 101] : List UInt8)
          · rw [if_pos c16] at H
            have c16b0 : (a1.toList == ([108, 97, 116, 101] : List UInt8)) = true := beq_iff_eq.mpr c16
            have c16b1 : (a1.toList != ([108, 97, 116, 101] : List UInt8)) = false := bne_eq_false_iff_eq.mpr c16
            clear c16
            replace H := Option.bind_eq_some_iff.mp H
            obtain ⟨t136, A170, H⟩ := H
            replace H : ((octroiref25_one.f t136).bind fun t137 => (some (t137, true))) = some (r1, r2) := H
            have A17 := Aside0.mk A170
            clear A170
            replace H := Option.bind_eq_some_iff.mp H
            obtain ⟨t137, A180, H⟩ := H
            replace H : (some (t137, true)) = some (r1, r2) := H
            have A18 := Aside0.mk A180
            clear A180
            simp only [Option.some.injEq, Prod.mk.injEq] at H
            obtain ⟨rfl, rfl⟩ := H
            go_enter Tryd.func30, Tryd.ntmps30
            go_wp2_with (first | ((first | (with_reducible refine gate_dst (N := 26) rfl ?_)); (try (refine gate_guard (by rfl) ?_; dsimp only)); apply RowTake.wpl_row (ty := 25) (hu := Tryd.underlying25) (hd := rfl); (case hgd => rfl); (case ho => rfl); (case hx => rfl); (case hg => repeat (first | exact Aside0.out (by with_reducible assumption) | refine blk_drewN ?_ _ | refine blk_drew ?_ | refine blk_alloc ?_ _)); (case hi => kernel_rfl)) | ((with_reducible refine gate_dst (N := 2) rfl ?_); refine box_event ?hg (N := 2) ?hd (cs := #[.int .i64 a0_0, .int .i64 a0_1, .int .i64 a0_2, .int .i64 a0_3, .int .i64 a0_4, .int .i64 a0_5, .string a0_6, .bool a0_7, .int .i64 a0_8, .int .i64 a0_9, .int .i64 a0_10, .string a0_11, .string a0_12, .int .i64 a0_13, .int .i64 a0_14, .int .i64 a0_15, .bool a0_16]) (t := 25) ?hr ?_; (case hd => rfl); (case hg => rfl); (case hr => first | (go_simp; done) | (go_simp; rfl)); intro gb134 hg w19 hbox hb; have n0_ := Aside0.mk (below_step (by repeat (first | (with_reducible first | exact HB.out | apply below_alloc | apply pw_below_drewN | apply below_drew1) | exact HB.out)) hb); have n1_ := Aside0.mk (hbox); have n2_ := Aside0.mk ((by rw [hg]; exact (below_size (by repeat (first | (with_reducible first | exact HB.out | apply below_alloc | apply pw_below_drewN | apply below_drew1) | exact HB.out))) : w.heap.size ≤ gb134)); have n3_ := Aside0.mk ((by rw [hg]; exact (below_size (by repeat (first | (with_reducible first | exact HB.out | apply below_alloc | apply pw_below_drewN | apply below_drew1) | exact HB.out))) : w.heap.size ≤ gb134)); clear HB; have HB := n0_; have BK134 := n1_; have GW134 := n2_; have GE134 := n3_; clear n0_ n1_ n2_ n3_; clear hb hbox hg; have hcz20_7 : w19.cell? ⟨gb134, 7, none⟩ = some (.bool a0_7) := (blk_cell BK134.out 7).trans rfl; have hcz20_8 : w19.cell? ⟨gb134, 8, none⟩ = some (.int .i64 a0_8) := (blk_cell BK134.out 8).trans rfl; have hcz20_9 : w19.cell? ⟨gb134, 9, none⟩ = some (.int .i64 a0_9) := (blk_cell BK134.out 9).trans rfl; have hcz20_10 : w19.cell? ⟨gb134, 10, none⟩ = some (.int .i64 a0_10) := (blk_cell BK134.out 10).trans rfl; have hcz20_16 : w19.cell? ⟨gb134, 16, none⟩ = some (.bool a0_16) := (blk_cell BK134.out 16).trans rfl; have hfz20_7 := blk_frozen BK134.out 7; have hfz20_8 := blk_frozen BK134.out 8; have hfz20_9 := blk_frozen BK134.out 9; have hfz20_10 := blk_frozen BK134.out 10; have hfz20_16 := blk_frozen BK134.out 16) | ((with_reducible refine gate_callee (f := 32) rfl ?_); refine goesL_ (some 27) rfl rfl Tryd.func32 (by kernel_rfl) rfl #[.agg #[.int .i64 a0_0, .int .i64 a0_1, .int .i64 a0_2, .int .i64 a0_3, .int .i64 a0_4, .int .i64 a0_5, .string a0_6, .bool a0_7, .int .i64 a0_8, .int .i64 a0_9, .int .i64 a0_10, .string a0_11, .string a0_12, .int .i64 a0_13, .int .i64 a0_14, .int .i64 a0_15, .bool a0_16]] rfl (by (try simp only [List.map_toArray, List.map_cons, List.map_nil]); first | done | rfl | (simp only [List.length_drop, List.length_take]; rfl)) ?_; (with_reducible refine (octroiref25_Late.calls a0_0 a0_1 a0_2 a0_3 a0_4 a0_5 a0_6 a0_7 a0_8 a0_9 a0_10 a0_11 a0_12 a0_13 a0_14 a0_15 a0_16 t136 _ A17.out).mono ?_); rintro e w21 ⟨rfl, hb⟩; refine ⟨_, rfl, ?_⟩; have n0_ := Aside0.mk (blk_below (g := gb134) (o := .cells #[.int .i64 a0_0, .int .i64 a0_1, .int .i64 a0_2, .int .i64 a0_3, .int .i64 a0_4, .int .i64 a0_5, .string a0_6, .bool a0_7, .int .i64 a0_8, .int .i64 a0_9, .int .i64 a0_10, .string a0_11, .string a0_12, .int .i64 a0_13, .int .i64 a0_14, .int .i64 a0_15, .bool a0_16] 25 (0, 0)) (by (with_reducible repeat (first | refine blk_drewN ?_ _ | refine blk_drew ?_ | refine blk_alloc ?_ _)); exact BK134.out) hb); have n1_ := Aside0.mk (below_step (by repeat (first | (with_reducible first | exact HB.out | apply below_alloc | apply pw_below_drewN | apply below_drew1 | refine below_set ?_ GE134.out) | exact HB.out)) hb); clear BK134; clear HB; have BK134 := n0_; have HB := n1_; clear n0_ n1_; (try clear hb); (try clear hb2); (try clear hk); (try clear hi)) | ((with_reducible refine gate_callee (f := 70) rfl ?_); refine goesL_ (some 28) rfl rfl Tryd.func70 (by kernel_rfl) rfl #[.bool t136] rfl (by (try simp only [List.map_toArray, List.map_cons, List.map_nil]); first | done | rfl | (simp only [List.length_drop, List.length_take]; rfl)) ?_; (with_reducible refine (octroiref25_one.calls t136 t137 _ A18.out).mono ?_); rintro e w' ⟨rfl, ⟨nd, rfl⟩⟩; refine ⟨_, rfl, ?_⟩))
            go_ret2
            exact ⟨by first | rfl | (simp [errW_none, errW_some] <;> rfl) | (simp [*, errW_none, errW_some] <;> rfl), by repeat (first | (with_reducible first | exact HB.out | apply below_alloc | apply pw_below_drewN | apply below_drew1 | refine below_set ?_ GE134.out) | exact HB.out)⟩
          · rw [if_neg c16] at H
            have c16b0 : (a1.toList == ([108, 97, 116, 101] : List UInt8)) = false := beq_eq_false_iff_ne.mpr c16
            have c16b1 : (a1.toList != ([108, 97, 116, 101] : List UInt8)) = true := bne_iff_ne.mpr c16
            by_cases c22 : a1.toList = ([109, 105, 120, 101, 100] : List UInt8)
            · rw [if_pos c22] at H
              have c22b0 : (a1.toList == ([109, 105, 120, 101, 100] : List UInt8)) = true := beq_iff_eq.mpr c22
              have c22b1 : (a1.toList != ([109, 105, 120, 101, 100] : List UInt8)) = false := bne_eq_false_iff_eq.mpr c22
              clear c22
              replace H := Option.bind_eq_some_iff.mp H
              obtain ⟨t138, A230, H⟩ := H
              replace H : (some (t138, true)) = some (r1, r2) := H
              have A23 := Aside0.mk A230
              clear A230
              simp only [Option.some.injEq, Prod.mk.injEq] at H
              obtain ⟨rfl, rfl⟩ := H
              go_enter Tryd.func30, Tryd.ntmps30
              go_wp2_with (first | ((first | (with_reducible refine gate_dst (N := 26) rfl ?_)); (try (refine gate_guard (by rfl) ?_; dsimp only)); apply RowTake.wpl_row (ty := 25) (hu := Tryd.underlying25) (hd := rfl); (case hgd => rfl); (case ho => rfl); (case hx => rfl); (case hg => repeat (first | exact Aside0.out (by with_reducible assumption) | refine blk_drewN ?_ _ | refine blk_drew ?_ | refine blk_alloc ?_ _)); (case hi => kernel_rfl)) | ((with_reducible refine gate_dst (N := 2) rfl ?_); refine box_event ?hg (N := 2) ?hd (cs := #[.int .i64 a0_0, .int .i64 a0_1, .int .i64 a0_2, .int .i64 a0_3, .int .i64 a0_4, .int .i64 a0_5, .string a0_6, .bool a0_7, .int .i64 a0_8, .int .i64 a0_9, .int .i64 a0_10, .string a0_11, .string a0_12, .int .i64 a0_13, .int .i64 a0_14, .int .i64 a0_15, .bool a0_16]) (t := 25) ?hr ?_; (case hd => rfl); (case hg => rfl); (case hr => first | (go_simp; done) | (go_simp; rfl)); intro gb134 hg w24 hbox hb; have n0_ := Aside0.mk (below_step (by repeat (first | (with_reducible first | exact HB.out | apply below_alloc | apply pw_below_drewN | apply below_drew1) | exact HB.out)) hb); have n1_ := Aside0.mk (hbox); have n2_ := Aside0.mk ((by rw [hg]; exact (below_size (by repeat (first | (with_reducible first | exact HB.out | apply below_alloc | apply pw_below_drewN | apply below_drew1) | exact HB.out))) : w.heap.size ≤ gb134)); have n3_ := Aside0.mk ((by rw [hg]; exact (below_size (by repeat (first | (with_reducible first | exact HB.out | apply below_alloc | apply pw_below_drewN | apply below_drew1) | exact HB.out))) : w.heap.size ≤ gb134)); clear HB; have HB := n0_; have BK134 := n1_; have GW134 := n2_; have GE134 := n3_; clear n0_ n1_ n2_ n3_; clear hb hbox hg; have hcz25_7 : w24.cell? ⟨gb134, 7, none⟩ = some (.bool a0_7) := (blk_cell BK134.out 7).trans rfl; have hcz25_8 : w24.cell? ⟨gb134, 8, none⟩ = some (.int .i64 a0_8) := (blk_cell BK134.out 8).trans rfl; have hcz25_9 : w24.cell? ⟨gb134, 9, none⟩ = some (.int .i64 a0_9) := (blk_cell BK134.out 9).trans rfl; have hcz25_10 : w24.cell? ⟨gb134, 10, none⟩ = some (.int .i64 a0_10) := (blk_cell BK134.out 10).trans rfl; have hcz25_16 : w24.cell? ⟨gb134, 16, none⟩ = some (.bool a0_16) := (blk_cell BK134.out 16).trans rfl; have hfz25_7 := blk_frozen BK134.out 7; have hfz25_8 := blk_frozen BK134.out 8; have hfz25_9 := blk_frozen BK134.out 9; have hfz25_10 := blk_frozen BK134.out 10; have hfz25_16 := blk_frozen BK134.out 16) | ((with_reducible refine gate_callee (f := 70) rfl ?_); refine goesL_ (some 33) rfl rfl Tryd.func70 (by kernel_rfl) rfl #[.bool a0_16] rfl (by (try simp only [List.map_toArray, List.map_cons, List.map_nil]); first | done | rfl | (simp only [List.length_drop, List.length_take]; rfl)) ?_; (with_reducible refine (octroiref25_one.calls a0_16 t138 _ A23.out).mono ?_); rintro e w' ⟨rfl, ⟨nd, rfl⟩⟩; refine ⟨_, rfl, ?_⟩))
              go_ret2
              exact ⟨by first | rfl | (simp [errW_none, errW_some] <;> rfl) | (simp [*, errW_none, errW_some] <;> rfl), by repeat (first | (with_reducible first | exact HB.out | apply below_alloc | apply pw_below_drewN | apply below_drew1 | refine below_set ?_ GE134.out) | exact HB.out)⟩
            · rw [if_neg c22] at H
              have c22b0 : (a1.toList == ([109, 105, 120, 101, 100] : List UInt8)) = false := beq_eq_false_iff_ne.mpr c22
              have c22b1 : (a1.toList != ([109, 105, 120, 101, 100] : List UInt8)) = true := bne_iff_ne.mpr c22
              simp only [Option.some.injEq, Prod.mk.injEq] at H
              obtain ⟨rfl, rfl⟩ := H
              go_enter Tryd.func30, Tryd.ntmps30
              go_wp2_with (first | ((first | (with_reducible refine gate_dst (N := 26) rfl ?_)); (try (refine gate_guard (by rfl) ?_; dsimp only)); apply RowTake.wpl_row (ty := 25) (hu := Tryd.underlying25) (hd := rfl); (case hgd => rfl); (case ho => rfl); (case hx => rfl); (case hg => repeat (first | exact Aside0.out (by with_reducible assumption) | refine blk_drewN ?_ _ | refine blk_drew ?_ | refine blk_alloc ?_ _)); (case hi => kernel_rfl)) | ((with_reducible refine gate_dst (N := 2) rfl ?_); refine box_event ?hg (N := 2) ?hd (cs := #[.int .i64 a0_0, .int .i64 a0_1, .int .i64 a0_2, .int .i64 a0_3, .int .i64 a0_4, .int .i64 a0_5, .string a0_6, .bool a0_7, .int .i64 a0_8, .int .i64 a0_9, .int .i64 a0_10, .string a0_11, .string a0_12, .int .i64 a0_13, .int .i64 a0_14, .int .i64 a0_15, .bool a0_16]) (t := 25) ?hr ?_; (case hd => rfl); (case hg => rfl); (case hr => first | (go_simp; done) | (go_simp; rfl)); intro gb134 hg w26 hbox hb; have n0_ := Aside0.mk (below_step (by repeat (first | (with_reducible first | exact HB.out | apply below_alloc | apply pw_below_drewN | apply below_drew1) | exact HB.out)) hb); have n1_ := Aside0.mk (hbox); have n2_ := Aside0.mk ((by rw [hg]; exact (below_size (by repeat (first | (with_reducible first | exact HB.out | apply below_alloc | apply pw_below_drewN | apply below_drew1) | exact HB.out))) : w.heap.size ≤ gb134)); have n3_ := Aside0.mk ((by rw [hg]; exact (below_size (by repeat (first | (with_reducible first | exact HB.out | apply below_alloc | apply pw_below_drewN | apply below_drew1) | exact HB.out))) : w.heap.size ≤ gb134)); clear HB; have HB := n0_; have BK134 := n1_; have GW134 := n2_; have GE134 := n3_; clear n0_ n1_ n2_ n3_; clear hb hbox hg))
              go_ret2
              exact ⟨by first | rfl | (simp [errW_none, errW_some] <;> rfl) | (simp [*, errW_none, errW_some] <;> rfl), by repeat (first | (with_reducible first | exact HB.out | apply below_alloc | apply pw_below_drewN | apply below_drew1 | refine below_set ?_ GE134.out) | exact HB.out)⟩

/-! ### octroiref07_Same: function 35 -/
def octroiref07_Same.l0 : Nat → List ByteArray → List ByteArray → Int → Option (Bool)
  | 0, _, _, _ => none
  | k + 1, x0, x1, x5 => if x5 < (x0.length : Int) then (if 0 ≤ x5 then (if x5 < (x1.length : Int) then (if (rdOf ByteArray.empty x0 x5).toList = (rdOf ByteArray.empty x1 x5).toList then (octroiref07_Same.l0 k x0 x1 (wrap64 (x5 + 1))) else (some false)) else (none)) else (none)) else (some true)
def octroiref07_Same.f (k : Nat) (l0 : List ByteArray) (l1 : List ByteArray) : Option (Bool) := if (l0.length : Int) = (l1.length : Int) then (octroiref07_Same.l0 k l0 l1 0) else (some false)
theorem octroiref07_Same.mono_l : ∀ k, (∀ y0 y1 y2, LeO (octroiref07_Same.l0 k y0 y1 y2) (octroiref07_Same.l0 (k + 1) y0 y1 y2))
  | 0 => fun _ _ _ r h => by simp [octroiref07_Same.l0] at h
  | k + 1 => by
    have ih0 := octroiref07_Same.mono_l k
    · intro y0 y1 y2
      unfold octroiref07_Same.l0
      repeat' first
      | (with_reducible exact ih0 _ _ _)
      | (with_reducible exact LeO.refl _)
      | (with_reducible exact LeO.none _)
      | (with_reducible refine LeO.ite ?_ ?_)
      | (with_reducible refine LeO.bind ?_ (fun _ => ?_))
      | exact ih0 _ _ _
      | exact LeO.none _
      | refine LeO.ite ?_ ?_
      | refine LeO.bind ?_ (fun _ => ?_)
theorem octroiref07_Same.mono : ∀ a0 a1 k, LeO (octroiref07_Same.f k a0 a1) (octroiref07_Same.f (k + 1) a0 a1) := by
  intro a0 a1 k
  have ih0 := octroiref07_Same.mono_l k
  unfold octroiref07_Same.f
  repeat' first
      | (with_reducible exact ih0 _ _ _)
      | (with_reducible exact LeO.refl _)
      | (with_reducible exact LeO.none _)
      | (with_reducible refine LeO.ite ?_ ?_)
      | (with_reducible refine LeO.bind ?_ (fun _ => ?_))
      | exact ih0 _ _ _
      | exact LeO.none _
      | refine LeO.ite ?_ ?_
      | refine LeO.bind ?_ (fun _ => ?_)
set_option maxHeartbeats 8000000 in
set_option maxRecDepth 100000 in
theorem octroiref07_Same.calls (k : Nat) (A0 : Option Addr) (c0 : Nat) (l0 : List ByteArray) (A1 : Option Addr) (c1 : Nat) (l1 : List ByteArray) (r : Bool) (w : World) (hr0 : Kd.C Kd.string w A0 l0.length l0) (hc0 : l0.length ≤ c0) (hr1 : Kd.C Kd.string w A1 l1.length l1) (hc1 : l1.length ≤ c1) (h : octroiref07_Same.f k l0 l1 = some r) :
    Calls Tryd.prog 35 #[.slice A0 l0.length c0, .slice A1 l1.length c1] w fun e w' => e = .returned (.bool r) ∧ Drawn0 w w' := by
  have HR0 := Aside0.mk hr0
  have HC0 := Aside0.mk hc0
  clear hr0 hc0
  have HR1 := Aside0.mk hr1
  have HC1 := Aside0.mk hc1
  clear hr1 hc1
  have H : (if (l0.length : Int) = (l1.length : Int) then (octroiref07_Same.l0 k l0 l1 0) else (some false)) = some r := h
  clear h
  by_cases c3 : (l0.length : Int) = (l1.length : Int)
  · rw [if_pos c3] at H
    have c3b0 : ((l0.length : Int) == (l1.length : Int)) = true := beq_iff_eq.mpr c3
    have c3b1 : ((l0.length : Int) != (l1.length : Int)) = false := bne_eq_false_iff_eq.mpr c3
    have c3b2 : (l0.length == l1.length) = true := by first | simpa using c3 | (simp at c3 ⊢; omega)
    clear c3
    have H' := Aside0.mk H
    clear H
    go_enter Tryd.func35, Tryd.ntmps35
    go_wp2
    repeat (go_quiet (fail); try go_wp2)
    go_loopg [5] k (fun kq v5 w' => ∃ (x5_1 : Int), v5 = .int .i64 x5_1 ∧ Aside0 (octroiref07_Same.l0 kq l0 l1 x5_1 = some r) ∧ Aside0 (kq ≤ k) ∧ Drawn0 w w')
    case atStart => exact ⟨(0), (by first | rfl | (simp; done) | (simp [*]; done)), H', ⟨Nat.le_refl _⟩, by repeat (first | exact Drawn0.refl _ | apply Drawn0.step)⟩
    case round =>
      clear H'
      try clear c1
      try clear p2
      try clear c3
      try clear c3b0
      try clear c3b1
      try clear c3b2
      obtain ⟨x5_1, rfl, HA, HK1, ⟨m1, rfl⟩⟩ := hrel
      cases gk with
      | zero => exact absurd HA.out (by simp [octroiref07_Same.l0])
      | succ k1 =>
        have H := HA.out
        clear HA
        simp only [octroiref07_Same.l0] at H
        by_cases c4 : x5_1 < (l0.length : Int)
        · rw [if_pos c4] at H
          have c4b0 : decide (x5_1 < (l0.length : Int)) = true := decide_eq_true c4
          clear c4
          by_cases c5 : 0 ≤ x5_1
          · rw [if_pos c5] at H
            have c5b0 : decide (0 ≤ x5_1) = true := decide_eq_true c5
            clear c5
            by_cases c6 : x5_1 < (l1.length : Int)
            · rw [if_pos c6] at H
              have c6b0 : decide (x5_1 < (l1.length : Int)) = true := decide_eq_true c6
              clear c6
              by_cases c7 : (rdOf ByteArray.empty l0 x5_1).toList = (rdOf ByteArray.empty l1 x5_1).toList
              · rw [if_pos c7] at H
                have c7b0 : ((rdOf ByteArray.empty l0 x5_1).toList == (rdOf ByteArray.empty l1 x5_1).toList) = true := beq_iff_eq.mpr c7
                have c7b1 : ((rdOf ByteArray.empty l0 x5_1).toList != (rdOf ByteArray.empty l1 x5_1).toList) = false := bne_eq_false_iff_eq.mpr c7
                clear c7
                have H' := Aside0.mk H
                clear H
                have p139 : 0 ≤ (x5_1 : Int) := of_decide_eq_true (by first | (with_reducible assumption) | assumption)
                have q139 : x5_1 < (l0.length : Int) := of_decide_eq_true (by first | (with_reducible assumption) | assumption)
                obtain ⟨ad139, e139, hx139_0⟩ := Kd.at_string HR0.out x5_1 p139 q139
                cases e139
                replace p139 := eq_true p139
                replace q139 := eq_true q139
                have p140 : 0 ≤ (x5_1 : Int) := of_decide_eq_true (by first | (with_reducible assumption) | assumption)
                have q140 : x5_1 < (l1.length : Int) := of_decide_eq_true (by first | (with_reducible assumption) | assumption)
                obtain ⟨ad140, e140, hx140_0⟩ := Kd.at_string HR1.out x5_1 p140 q140
                cases e140
                replace p140 := eq_true p140
                replace q140 := eq_true q140
                go_wp2
                repeat (go_quiet (fail); try go_wp2)
                go_roundg k1
                case measure => have := HK1.out; omega
                case rel => exact ⟨(wrap64 (x5_1 + 1)), (by first | rfl | (simp; done) | (simp [*]; done)), H', ⟨by have := HK1.out; omega⟩, by repeat (first | exact Drawn0.refl _ | apply Drawn0.step)⟩
              · rw [if_neg c7] at H
                have c7b0 : ((rdOf ByteArray.empty l0 x5_1).toList == (rdOf ByteArray.empty l1 x5_1).toList) = false := beq_eq_false_iff_ne.mpr c7
                have c7b1 : ((rdOf ByteArray.empty l0 x5_1).toList != (rdOf ByteArray.empty l1 x5_1).toList) = true := bne_iff_ne.mpr c7
                obtain rfl := Option.some.inj H
                have p139 : 0 ≤ (x5_1 : Int) := of_decide_eq_true (by first | (with_reducible assumption) | assumption)
                have q139 : x5_1 < (l0.length : Int) := of_decide_eq_true (by first | (with_reducible assumption) | assumption)
                obtain ⟨ad139, e139, hx139_0⟩ := Kd.at_string HR0.out x5_1 p139 q139
                cases e139
                replace p139 := eq_true p139
                replace q139 := eq_true q139
                have p140 : 0 ≤ (x5_1 : Int) := of_decide_eq_true (by first | (with_reducible assumption) | assumption)
                have q140 : x5_1 < (l1.length : Int) := of_decide_eq_true (by first | (with_reducible assumption) | assumption)
                obtain ⟨ad140, e140, hx140_0⟩ := Kd.at_string HR1.out x5_1 p140 q140
                cases e140
                replace p140 := eq_true p140
                replace q140 := eq_true q140
                go_wp2
                repeat (go_quiet (fail); try go_wp2)
                go_ret
                exact ⟨by first | rfl | (simp; done) | (simp [*]; done), by repeat (first | exact Drawn0.refl _ | apply Drawn0.step)⟩
            · rw [if_neg c6] at H
              exact absurd H (by simp)
          · rw [if_neg c5] at H
            exact absurd H (by simp)
        · rw [if_neg c4] at H
          have c4b0 : decide (x5_1 < (l0.length : Int)) = false := decide_eq_false c4
          clear c4
          obtain rfl := Option.some.inj H
          go_wp2
          repeat (go_quiet (fail); try go_wp2)
          go_ret
          exact ⟨by first | rfl | (simp; done) | (simp [*]; done), by repeat (first | exact Drawn0.refl _ | apply Drawn0.step)⟩
  · rw [if_neg c3] at H
    have c3b0 : ((l0.length : Int) == (l1.length : Int)) = false := beq_eq_false_iff_ne.mpr c3
    have c3b1 : ((l0.length : Int) != (l1.length : Int)) = true := bne_iff_ne.mpr c3
    have c3b2 : (l0.length == l1.length) = false := by first | simpa using c3 | (simp at c3 ⊢; omega)
    obtain rfl := Option.some.inj H
    go_enter Tryd.func35, Tryd.ntmps35
    go_wp2
    repeat (go_quiet (fail); try go_wp2)
    go_ret
    exact ⟨by first | rfl | (simp; done) | (simp [*]; done), by repeat (first | exact Drawn0.refl _ | apply Drawn0.step)⟩

/-! ### entry_Tags: function 37 -/
def entry_Tags.f  : Option (List ByteArray) := some (([(⟨#[116, 114, 101, 97, 116]⟩ : ByteArray), (⟨#[114, 97, 116, 101]⟩ : ByteArray), (⟨#[115, 117, 112, 112, 108, 121]⟩ : ByteArray), (⟨#[115, 97, 108, 101]⟩ : ByteArray), (⟨#[108, 97, 116, 101]⟩ : ByteArray), (⟨#[109, 105, 120, 101, 100]⟩ : ByteArray)] : List ByteArray))
set_option maxHeartbeats 8000000 in
set_option maxRecDepth 100000 in
theorem entry_Tags.calls  (r : List ByteArray) (w : World) (h : entry_Tags.f  = some r) :
    Calls Tryd.prog 37 #[] w fun e w' => ∃ v0_ : Value, e = .returned (v0_) ∧ Kd.R Kd.string 9 w' w.heap.size (fun _ => True) v0_ r ∧ Below w.heap.size w w' := by
  have HB := Aside0.mk (Below.refl w.heap.size w)
  have H : (some (([(⟨#[116, 114, 101, 97, 116]⟩ : ByteArray), (⟨#[114, 97, 116, 101]⟩ : ByteArray), (⟨#[115, 117, 112, 112, 108, 121]⟩ : ByteArray), (⟨#[115, 97, 108, 101]⟩ : ByteArray), (⟨#[108, 97, 116, 101]⟩ : ByteArray), (⟨#[109, 105, 120, 101, 100]⟩ : ByteArray)] : List ByteArray))) = some r := h
  clear h
  obtain ⟨y141, hy141⟩ : ∃ y_ : List ByteArray, y_ = (([(⟨#[116, 114, 101, 97, 116]⟩ : ByteArray), (⟨#[114, 97, 116, 101]⟩ : ByteArray), (⟨#[115, 117, 112, 112, 108, 121]⟩ : ByteArray), (⟨#[115, 97, 108, 101]⟩ : ByteArray), (⟨#[108, 97, 116, 101]⟩ : ByteArray), (⟨#[109, 105, 120, 101, 100]⟩ : ByteArray)] : List ByteArray)) := ⟨_, rfl⟩
  replace H : (some y141) = some r := by first | (rw [hy141]; with_reducible exact H) | (have H2_ := (Option.bind_some _ _).symm.trans H; rw [hy141]; with_reducible exact H2_) | (have H2_ := (Option.bind_some _ _).symm.trans H; with_reducible exact H2_) | with_reducible exact H | (rw [hy141]; exact H) | exact H
  have Ny141 := Aside0.mk hy141
  clear hy141
  obtain rfl := Option.some.inj H
  go_enter Tryd.func37, Tryd.ntmps37
  go_wp2_with (first | ((with_reducible refine gate_dst (N := 1) rfl ?_); refine Kd.R_lit Kd.string _ 9 ?hg (N := 1) ?hd (xs := ([(⟨#[116, 114, 101, 97, 116]⟩ : ByteArray), (⟨#[114, 97, 116, 101]⟩ : ByteArray), (⟨#[115, 117, 112, 112, 108, 121]⟩ : ByteArray), (⟨#[115, 97, 108, 101]⟩ : ByteArray), (⟨#[108, 97, 116, 101]⟩ : ByteArray), (⟨#[109, 105, 120, 101, 100]⟩ : ByteArray)] : List ByteArray)) (inner := [.string (⟨#[116, 114, 101, 97, 116]⟩ : ByteArray), .string (⟨#[114, 97, 116, 101]⟩ : ByteArray), .string (⟨#[115, 117, 112, 112, 108, 121]⟩ : ByteArray), .string (⟨#[115, 97, 108, 101]⟩ : ByteArray), .string (⟨#[108, 97, 116, 101]⟩ : ByteArray), .string (⟨#[109, 105, 120, 101, 100]⟩ : ByteArray)]) (ok := fun _ => True) (okp := fun _ => True) ?hr ?hp (fun _ hk => hk) trivial (Below.refl _ _) (Nat.le_refl _) (by simp) ?_; (case hd => rfl); (case hg => rfl); (case hr => first | (go_simp; done) | (go_simp; rfl)); (case hp => exact (Reps.one (show Kd.M Kd.string _ _ _ (⟨#[116, 114, 101, 97, 116]⟩ : ByteArray) [.string (⟨#[116, 114, 101, 97, 116]⟩ : ByteArray)] from rfl) (Reps.one (show Kd.M Kd.string _ _ _ (⟨#[114, 97, 116, 101]⟩ : ByteArray) [.string (⟨#[114, 97, 116, 101]⟩ : ByteArray)] from rfl) (Reps.one (show Kd.M Kd.string _ _ _ (⟨#[115, 117, 112, 112, 108, 121]⟩ : ByteArray) [.string (⟨#[115, 117, 112, 112, 108, 121]⟩ : ByteArray)] from rfl) (Reps.one (show Kd.M Kd.string _ _ _ (⟨#[115, 97, 108, 101]⟩ : ByteArray) [.string (⟨#[115, 97, 108, 101]⟩ : ByteArray)] from rfl) (Reps.one (show Kd.M Kd.string _ _ _ (⟨#[108, 97, 116, 101]⟩ : ByteArray) [.string (⟨#[108, 97, 116, 101]⟩ : ByteArray)] from rfl) (Reps.one (show Kd.M Kd.string _ _ _ (⟨#[109, 105, 120, 101, 100]⟩ : ByteArray) [.string (⟨#[109, 105, 120, 101, 100]⟩ : ByteArray)] from rfl) (Reps.none _ _)))))))); intro v142 w1 ho2 hb hg_ hnew_; clear hg_ hnew_; (first | rw [← Ny141.out] at ho2 | (simp only [Int.reduceToNat] at ho2; rw [← Ny141.out] at ho2)); have n0_ := Aside0.mk (Kd.R_lower ho2 (below_size (by repeat (first | (with_reducible first | exact HB.out | apply below_alloc | apply pw_below_drewN | apply below_drew1) | exact HB.out)))); have n1_ := Aside0.mk (below_step (by repeat (first | (with_reducible first | exact HB.out | apply below_alloc | apply pw_below_drewN | apply below_drew1) | exact HB.out)) hb); clear HB; have HO143 := n0_; have HB := n1_; clear n0_ n1_; clear hb ho2))
  go_ret
  exact ⟨_, by first | rfl | (simp [errW_none, errW_some] <;> rfl) | (simp [*, errW_none, errW_some] <;> rfl), by (with_reducible repeat (first | apply Kd.R_alloc | apply Kd.R_drewN | apply Kd.R_drew)); exact HO143.out, by repeat (first | (with_reducible first | exact HB.out | apply below_alloc | apply pw_below_drewN | apply below_drew1) | exact HB.out)⟩

end Go.Proofs.YtlciddgncngniaaDoor.XEntryNames
