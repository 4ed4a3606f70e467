/-
  entry.field, entry.tag, entry.bit, the closures that they hand back: their contracts.
-/
import Derived.Laws.EntriesVeiled
import Derived.Laws.Rows
import Derived.Test.YtlciddgncngniaaDoorK2
import Derived.Test.YtlciddgncngniaaDoorWWords
import Derived.Test.YtlciddgncngniaaDoorWLast
namespace Go.Proofs.YtlciddgncngniaaDoor.EN
open Go.RowKit Go.Proofs.YtlciddgncngniaaDoorW.PrintWords Go.Proofs.YtlciddgncngniaaDoorK
set_option linter.unusedVariables false
set_option linter.unusedSimpArgs false
set_option linter.unnecessarySimpa false

set_option maxHeartbeats 1000000 in
theorem bit_walk (k : Nat) (w : World) :
    Calls Tryd.prog 104 #[.func (.func k) #[] #[]] w fun e w' => ∃ g : Nat, e = .returned (.agg #[.func (.func 125) #[] #[.pointer (some ⟨g, 0, none⟩)]]) ∧ w'.heap[g]? = some (.cells #[.func (.func k) #[] #[]] 26 (0, 0)) ∧ w.heap.size ≤ g ∧ Below w.heap.size w w' := by
  have hmf : ∀ (fn : Fn) (first cap : Array Value) (w : World), (Instr.makeFunc fn first cap).run Tryd.prog w = .ok (.func fn first cap) w := fun _ _ _ _ => rfl
  go_enter Tryd.func104, Tryd.ntmps104
  go_wp2
  refine bodyPost_ret (by simp [results, Tryd.results104, go_sem]) rfl ⟨w.heap.size, rfl, ?_, Nat.le_refl _, ?_⟩
  · first | (rw [Go.heap_alloc2_old]; done) | (refine set_ne (by rw [Go.heap_alloc2_old]) ?_; simp)
  · first | exact s_alloc (s_alloc (Below.refl _ _) _) _ | (refine s_set (s_alloc (s_alloc (Below.refl _ _) _) _) _ _ ?_; simp)
set_option maxHeartbeats 1000000 in
theorem field_base (s : ByteArray) (w : World) (h : s.toList = [98, 97, 115, 101]) :
    Calls Tryd.prog 68 #[.string s] w (fun e w' => e = .returned (.tuple #[.agg #[.func (.func 98) #[] #[]], .bool true]) ∧ Below w.heap.size w w') := by
  have hmf : ∀ (fn : Fn) (first cap : Array Value) (w : World), (Instr.makeFunc fn first cap).run Tryd.prog w = .ok (.func fn first cap) w := fun _ _ _ _ => rfl
  have b0 : (s.toList == [98, 97, 115, 101]) = true := by simp [h]
  clear h
  go_enter Tryd.func68, Tryd.ntmps68
  go_wp2
  refine bodyPost_ret (by simp [results, Tryd.results68, go_sem]) rfl ⟨rfl, ?_⟩
  first | exact s_alloc (Below.refl _ _) _ | (refine s_set (s_alloc (Below.refl _ _) _) _ _ ?_; exact Nat.le_refl _)
set_option maxHeartbeats 1000000 in
theorem field_tax (s : ByteArray) (w : World) (h : s.toList = [116, 97, 120]) :
    Calls Tryd.prog 68 #[.string s] w (fun e w' => e = .returned (.tuple #[.agg #[.func (.func 99) #[] #[]], .bool true]) ∧ Below w.heap.size w w') := by
  have hmf : ∀ (fn : Fn) (first cap : Array Value) (w : World), (Instr.makeFunc fn first cap).run Tryd.prog w = .ok (.func fn first cap) w := fun _ _ _ _ => rfl
  have b0 : (s.toList == [98, 97, 115, 101]) = false := by simp [h]
  have b1 : (s.toList == [116, 97, 120]) = true := by simp [h]
  clear h
  go_enter Tryd.func68, Tryd.ntmps68
  go_wp2
  refine bodyPost_ret (by simp [results, Tryd.results68, go_sem]) rfl ⟨rfl, ?_⟩
  first | exact s_alloc (Below.refl _ _) _ | (refine s_set (s_alloc (Below.refl _ _) _) _ _ ?_; exact Nat.le_refl _)
set_option maxHeartbeats 1000000 in
theorem field_out (s : ByteArray) (w : World) (h : s.toList = [111, 117, 116]) :
    Calls Tryd.prog 68 #[.string s] w (fun e w' => e = .returned (.tuple #[.agg #[.func (.func 33) #[] #[]], .bool true]) ∧ Below w.heap.size w w') := by
  have hmf : ∀ (fn : Fn) (first cap : Array Value) (w : World), (Instr.makeFunc fn first cap).run Tryd.prog w = .ok (.func fn first cap) w := fun _ _ _ _ => rfl
  have b0 : (s.toList == [98, 97, 115, 101]) = false := by simp [h]
  have b1 : (s.toList == [116, 97, 120]) = false := by simp [h]
  have b2 : (s.toList == [111, 117, 116]) = true := by simp [h]
  clear h
  go_enter Tryd.func68, Tryd.ntmps68
  go_wp2
  refine bodyPost_ret (by simp [results, Tryd.results68, go_sem]) rfl ⟨rfl, ?_⟩
  first | exact s_alloc (Below.refl _ _) _ | (refine s_set (s_alloc (Below.refl _ _) _) _ _ ?_; exact Nat.le_refl _)
set_option maxHeartbeats 1000000 in
theorem field_in (s : ByteArray) (w : World) (h : s.toList = [105, 110]) :
    Calls Tryd.prog 68 #[.string s] w (fun e w' => e = .returned (.tuple #[.agg #[.func (.func 100) #[] #[]], .bool true]) ∧ Below w.heap.size w w') := by
  have hmf : ∀ (fn : Fn) (first cap : Array Value) (w : World), (Instr.makeFunc fn first cap).run Tryd.prog w = .ok (.func fn first cap) w := fun _ _ _ _ => rfl
  have b0 : (s.toList == [98, 97, 115, 101]) = false := by simp [h]
  have b1 : (s.toList == [116, 97, 120]) = false := by simp [h]
  have b2 : (s.toList == [111, 117, 116]) = false := by simp [h]
  have b3 : (s.toList == [105, 110]) = true := by simp [h]
  clear h
  go_enter Tryd.func68, Tryd.ntmps68
  go_wp2
  refine bodyPost_ret (by simp [results, Tryd.results68, go_sem]) rfl ⟨rfl, ?_⟩
  first | exact s_alloc (Below.refl _ _) _ | (refine s_set (s_alloc (Below.refl _ _) _) _ _ ?_; exact Nat.le_refl _)
set_option maxHeartbeats 1000000 in
theorem field_none (s : ByteArray) (w : World) (h0 : s.toList ≠ [98, 97, 115, 101]) (h1 : s.toList ≠ [116, 97, 120]) (h2 : s.toList ≠ [111, 117, 116]) (h3 : s.toList ≠ [105, 110]) :
    Calls Tryd.prog 68 #[.string s] w (fun e w' => e = .returned (.tuple #[.agg #[.nilFunc], .bool false]) ∧ Below w.heap.size w w') := by
  have hmf : ∀ (fn : Fn) (first cap : Array Value) (w : World), (Instr.makeFunc fn first cap).run Tryd.prog w = .ok (.func fn first cap) w := fun _ _ _ _ => rfl
  have b0 : (s.toList == [98, 97, 115, 101]) = false := by simpa using h0
  have b1 : (s.toList == [116, 97, 120]) = false := by simpa using h1
  have b2 : (s.toList == [111, 117, 116]) = false := by simpa using h2
  have b3 : (s.toList == [105, 110]) = false := by simpa using h3
  clear h0 h1 h2 h3
  go_enter Tryd.func68, Tryd.ntmps68
  go_wp2
  refine bodyPost_ret (by simp [results, Tryd.results68, go_sem]) rfl ⟨rfl, ?_⟩
  first | exact s_alloc (Below.refl _ _) _ | (refine s_set (s_alloc (Below.refl _ _) _) _ _ ?_; exact Nat.le_refl _)
set_option maxHeartbeats 1000000 in
theorem tag_treat (s : ByteArray) (w : World) (h : s.toList = [116, 114, 101, 97, 116]) :
    Calls Tryd.prog 69 #[.string s] w (fun e w' => e = .returned (.tuple #[.agg #[.func (.func 101) #[] #[]], .bool true]) ∧ Below w.heap.size w w') := by
  have hmf : ∀ (fn : Fn) (first cap : Array Value) (w : World), (Instr.makeFunc fn first cap).run Tryd.prog w = .ok (.func fn first cap) w := fun _ _ _ _ => rfl
  have b0 : (s.toList == [116, 114, 101, 97, 116]) = true := by simp [h]
  clear h
  go_enter Tryd.func69, Tryd.ntmps69
  go_wp2
  refine bodyPost_ret (by simp [results, Tryd.results69, go_sem]) rfl ⟨rfl, ?_⟩
  first | exact s_alloc (Below.refl _ _) _ | (refine s_set (s_alloc (Below.refl _ _) _) _ _ ?_; exact Nat.le_refl _)
set_option maxHeartbeats 1000000 in
theorem tag_rate (s : ByteArray) (w : World) (h : s.toList = [114, 97, 116, 101]) :
    Calls Tryd.prog 69 #[.string s] w (fun e w' => e = .returned (.tuple #[.agg #[.func (.func 102) #[] #[]], .bool true]) ∧ Below w.heap.size w w') := by
  have hmf : ∀ (fn : Fn) (first cap : Array Value) (w : World), (Instr.makeFunc fn first cap).run Tryd.prog w = .ok (.func fn first cap) w := fun _ _ _ _ => rfl
  have b0 : (s.toList == [116, 114, 101, 97, 116]) = false := by simp [h]
  have b1 : (s.toList == [114, 97, 116, 101]) = true := by simp [h]
  clear h
  go_enter Tryd.func69, Tryd.ntmps69
  go_wp2
  refine bodyPost_ret (by simp [results, Tryd.results69, go_sem]) rfl ⟨rfl, ?_⟩
  first | exact s_alloc (Below.refl _ _) _ | (refine s_set (s_alloc (Below.refl _ _) _) _ _ ?_; exact Nat.le_refl _)
set_option maxHeartbeats 1000000 in
theorem tag_supply (s : ByteArray) (w : World) (h : s.toList = [115, 117, 112, 112, 108, 121]) :
    Calls Tryd.prog 69 #[.string s] w (fun e w' => e = .returned (.tuple #[.agg #[.func (.func 103) #[] #[]], .bool true]) ∧ Below w.heap.size w w') := by
  have hmf : ∀ (fn : Fn) (first cap : Array Value) (w : World), (Instr.makeFunc fn first cap).run Tryd.prog w = .ok (.func fn first cap) w := fun _ _ _ _ => rfl
  have b0 : (s.toList == [116, 114, 101, 97, 116]) = false := by simp [h]
  have b1 : (s.toList == [114, 97, 116, 101]) = false := by simp [h]
  have b2 : (s.toList == [115, 117, 112, 112, 108, 121]) = true := by simp [h]
  clear h
  go_enter Tryd.func69, Tryd.ntmps69
  go_wp2
  refine bodyPost_ret (by simp [results, Tryd.results69, go_sem]) rfl ⟨rfl, ?_⟩
  first | exact s_alloc (Below.refl _ _) _ | (refine s_set (s_alloc (Below.refl _ _) _) _ _ ?_; exact Nat.le_refl _)
set_option maxHeartbeats 1000000 in
theorem tag_sale (s : ByteArray) (w : World) (h : s.toList = [115, 97, 108, 101]) :
    Calls Tryd.prog 69 #[.string s] w (fun e w' => ∃ g : Nat, e = .returned (.tuple #[.agg #[.func (.func 125) #[] #[.pointer (some ⟨g, 0, none⟩)]], .bool true]) ∧ w'.heap[g]? = some (.cells #[.func (.func 105) #[] #[]] 26 (0, 0)) ∧ w.heap.size ≤ g ∧ Below w.heap.size w w') := by
  have hmf : ∀ (fn : Fn) (first cap : Array Value) (w : World), (Instr.makeFunc fn first cap).run Tryd.prog w = .ok (.func fn first cap) w := fun _ _ _ _ => rfl
  have b0 : (s.toList == [116, 114, 101, 97, 116]) = false := by simp [h]
  have b1 : (s.toList == [114, 97, 116, 101]) = false := by simp [h]
  have b2 : (s.toList == [115, 117, 112, 112, 108, 121]) = false := by simp [h]
  have b3 : (s.toList == [115, 97, 108, 101]) = true := by simp [h]
  clear h
  go_enter Tryd.func69, Tryd.ntmps69
  go_wp2_with (go_at_call 104; refine (bit_walk _ _).mono ?_; rintro e w1 ⟨g, rfl, hg, hgg, hb⟩; have HB := Lib.hid hb; have HG := Lib.hid hg; have hk0 := block_kept hb; have hc0 := cells1 hk0; have hf0 := blockFree hk0 0; clear hk0; have hgn : g ≠ w.heap.size := (by simp at hgg; omega); have HGN := Lib.hid hgn; clear hgn hb hg)
  refine bodyPost_ret (by simp [results, Tryd.results69, go_sem, hc0]) rfl ⟨g, rfl, ?_, ?_, ?_⟩
  · exact set_ne HG.out HGN.out
  · simp at hgg; omega
  · exact s_set (s_trans (s_alloc (Below.refl _ _) _) HB.out) _ _ (Nat.le_refl _)
set_option maxHeartbeats 1000000 in
theorem tag_late (s : ByteArray) (w : World) (h : s.toList = [108, 97, 116, 101]) :
    Calls Tryd.prog 69 #[.string s] w (fun e w' => ∃ g : Nat, e = .returned (.tuple #[.agg #[.func (.func 125) #[] #[.pointer (some ⟨g, 0, none⟩)]], .bool true]) ∧ w'.heap[g]? = some (.cells #[.func (.func 31) #[] #[]] 26 (0, 0)) ∧ w.heap.size ≤ g ∧ Below w.heap.size w w') := by
  have hmf : ∀ (fn : Fn) (first cap : Array Value) (w : World), (Instr.makeFunc fn first cap).run Tryd.prog w = .ok (.func fn first cap) w := fun _ _ _ _ => rfl
  have b0 : (s.toList == [116, 114, 101, 97, 116]) = false := by simp [h]
  have b1 : (s.toList == [114, 97, 116, 101]) = false := by simp [h]
  have b2 : (s.toList == [115, 117, 112, 112, 108, 121]) = false := by simp [h]
  have b3 : (s.toList == [115, 97, 108, 101]) = false := by simp [h]
  have b4 : (s.toList == [108, 97, 116, 101]) = true := by simp [h]
  clear h
  go_enter Tryd.func69, Tryd.ntmps69
  go_wp2_with (go_at_call 104; refine (bit_walk _ _).mono ?_; rintro e w1 ⟨g, rfl, hg, hgg, hb⟩; have HB := Lib.hid hb; have HG := Lib.hid hg; have hk0 := block_kept hb; have hc0 := cells1 hk0; have hf0 := blockFree hk0 0; clear hk0; have hgn : g ≠ w.heap.size := (by simp at hgg; omega); have HGN := Lib.hid hgn; clear hgn hb hg)
  refine bodyPost_ret (by simp [results, Tryd.results69, go_sem, hc0]) rfl ⟨g, rfl, ?_, ?_, ?_⟩
  · exact set_ne HG.out HGN.out
  · simp at hgg; omega
  · exact s_set (s_trans (s_alloc (Below.refl _ _) _) HB.out) _ _ (Nat.le_refl _)
set_option maxHeartbeats 1000000 in
theorem tag_mixed (s : ByteArray) (w : World) (h : s.toList = [109, 105, 120, 101, 100]) :
    Calls Tryd.prog 69 #[.string s] w (fun e w' => ∃ g : Nat, e = .returned (.tuple #[.agg #[.func (.func 125) #[] #[.pointer (some ⟨g, 0, none⟩)]], .bool true]) ∧ w'.heap[g]? = some (.cells #[.func (.func 106) #[] #[]] 26 (0, 0)) ∧ w.heap.size ≤ g ∧ Below w.heap.size w w') := by
  have hmf : ∀ (fn : Fn) (first cap : Array Value) (w : World), (Instr.makeFunc fn first cap).run Tryd.prog w = .ok (.func fn first cap) w := fun _ _ _ _ => rfl
  have b0 : (s.toList == [116, 114, 101, 97, 116]) = false := by simp [h]
  have b1 : (s.toList == [114, 97, 116, 101]) = false := by simp [h]
  have b2 : (s.toList == [115, 117, 112, 112, 108, 121]) = false := by simp [h]
  have b3 : (s.toList == [115, 97, 108, 101]) = false := by simp [h]
  have b4 : (s.toList == [108, 97, 116, 101]) = false := by simp [h]
  have b5 : (s.toList == [109, 105, 120, 101, 100]) = true := by simp [h]
  clear h
  go_enter Tryd.func69, Tryd.ntmps69
  go_wp2_with (go_at_call 104; refine (bit_walk _ _).mono ?_; rintro e w1 ⟨g, rfl, hg, hgg, hb⟩; have HB := Lib.hid hb; have HG := Lib.hid hg; have hk0 := block_kept hb; have hc0 := cells1 hk0; have hf0 := blockFree hk0 0; clear hk0; have hgn : g ≠ w.heap.size := (by simp at hgg; omega); have HGN := Lib.hid hgn; clear hgn hb hg)
  refine bodyPost_ret (by simp [results, Tryd.results69, go_sem, hc0]) rfl ⟨g, rfl, ?_, ?_, ?_⟩
  · exact set_ne HG.out HGN.out
  · simp at hgg; omega
  · exact s_set (s_trans (s_alloc (Below.refl _ _) _) HB.out) _ _ (Nat.le_refl _)
set_option maxHeartbeats 1000000 in
theorem tag_none (s : ByteArray) (w : World) (h0 : s.toList ≠ [116, 114, 101, 97, 116]) (h1 : s.toList ≠ [114, 97, 116, 101]) (h2 : s.toList ≠ [115, 117, 112, 112, 108, 121]) (h3 : s.toList ≠ [115, 97, 108, 101]) (h4 : s.toList ≠ [108, 97, 116, 101]) (h5 : s.toList ≠ [109, 105, 120, 101, 100]) :
    Calls Tryd.prog 69 #[.string s] w (fun e w' => e = .returned (.tuple #[.agg #[.nilFunc], .bool false]) ∧ Below w.heap.size w w') := by
  have hmf : ∀ (fn : Fn) (first cap : Array Value) (w : World), (Instr.makeFunc fn first cap).run Tryd.prog w = .ok (.func fn first cap) w := fun _ _ _ _ => rfl
  have b0 : (s.toList == [116, 114, 101, 97, 116]) = false := by simpa using h0
  have b1 : (s.toList == [114, 97, 116, 101]) = false := by simpa using h1
  have b2 : (s.toList == [115, 117, 112, 112, 108, 121]) = false := by simpa using h2
  have b3 : (s.toList == [115, 97, 108, 101]) = false := by simpa using h3
  have b4 : (s.toList == [108, 97, 116, 101]) = false := by simpa using h4
  have b5 : (s.toList == [109, 105, 120, 101, 100]) = false := by simpa using h5
  clear h0 h1 h2 h3 h4 h5
  go_enter Tryd.func69, Tryd.ntmps69
  go_wp2
  refine bodyPost_ret (by simp [results, Tryd.results69, go_sem]) rfl ⟨rfl, ?_⟩
  first | exact s_alloc (Below.refl _ _) _ | (refine s_set (s_alloc (Below.refl _ _) _) _ _ ?_; exact Nat.le_refl _)

set_option maxHeartbeats 1000000 in
theorem field_1_walk (a0_0 : Int) (a0_1 : Int) (a0_2 : Int) (a0_3 : Int) (a0_4 : Int) (a0_5 : Int) (a0_6 : ByteArray) (a0_7 : Bool) (a0_8 : Int) (a0_9 : Int) (a0_10 : Int) (a0_11 : ByteArray) (a0_12 : ByteArray) (a0_13 : Int) (a0_14 : Int) (a0_15 : Int) (a0_16 : Bool) (w : World) :
    Calls Tryd.prog 98 #[.agg #[.int .i64 a0_0, .int .i64 a0_1, .int .i64 a0_2, .int .i64 a0_3, .int .i64 a0_4, .int .i64 a0_5, .string a0_6, .bool a0_7, .int .i64 a0_8, .int .i64 a0_9, .int .i64 a0_10, .string a0_11, .string a0_12, .int .i64 a0_13, .int .i64 a0_14, .int .i64 a0_15, .bool a0_16]] w fun e w' => e = .returned (.int .i64 a0_13) ∧ Below w.heap.size w w' := by
  go_enter Tryd.func98, Tryd.ntmps98
  go_wp2
  go_ret
  exact ⟨rfl, s_alloc (Below.refl _ _) _⟩

set_option maxHeartbeats 1000000 in
theorem field_2_walk (a0_0 : Int) (a0_1 : Int) (a0_2 : Int) (a0_3 : Int) (a0_4 : Int) (a0_5 : Int) (a0_6 : ByteArray) (a0_7 : Bool) (a0_8 : Int) (a0_9 : Int) (a0_10 : Int) (a0_11 : ByteArray) (a0_12 : ByteArray) (a0_13 : Int) (a0_14 : Int) (a0_15 : Int) (a0_16 : Bool) (w : World) :
    Calls Tryd.prog 99 #[.agg #[.int .i64 a0_0, .int .i64 a0_1, .int .i64 a0_2, .int .i64 a0_3, .int .i64 a0_4, .int .i64 a0_5, .string a0_6, .bool a0_7, .int .i64 a0_8, .int .i64 a0_9, .int .i64 a0_10, .string a0_11, .string a0_12, .int .i64 a0_13, .int .i64 a0_14, .int .i64 a0_15, .bool a0_16]] w fun e w' => e = .returned (.int .i64 a0_14) ∧ Below w.heap.size w w' := by
  go_enter Tryd.func99, Tryd.ntmps99
  go_wp2
  go_ret
  exact ⟨rfl, s_alloc (Below.refl _ _) _⟩

set_option maxHeartbeats 1000000 in
theorem field_3_walk (a0_0 : Int) (a0_1 : Int) (a0_2 : Int) (a0_3 : Int) (a0_4 : Int) (a0_5 : Int) (a0_6 : ByteArray) (a0_7 : Bool) (a0_8 : Int) (a0_9 : Int) (a0_10 : Int) (a0_11 : ByteArray) (a0_12 : ByteArray) (a0_13 : Int) (a0_14 : Int) (a0_15 : Int) (a0_16 : Bool) (w : World) :
    Calls Tryd.prog 100 #[.agg #[.int .i64 a0_0, .int .i64 a0_1, .int .i64 a0_2, .int .i64 a0_3, .int .i64 a0_4, .int .i64 a0_5, .string a0_6, .bool a0_7, .int .i64 a0_8, .int .i64 a0_9, .int .i64 a0_10, .string a0_11, .string a0_12, .int .i64 a0_13, .int .i64 a0_14, .int .i64 a0_15, .bool a0_16]] w fun e w' => e = .returned (.int .i64 a0_15) ∧ Below w.heap.size w w' := by
  go_enter Tryd.func100, Tryd.ntmps100
  go_wp2
  go_ret
  exact ⟨rfl, s_alloc (Below.refl _ _) _⟩

set_option maxHeartbeats 1000000 in
theorem tag_1_walk (a0_0 : Int) (a0_1 : Int) (a0_2 : Int) (a0_3 : Int) (a0_4 : Int) (a0_5 : Int) (a0_6 : ByteArray) (a0_7 : Bool) (a0_8 : Int) (a0_9 : Int) (a0_10 : Int) (a0_11 : ByteArray) (a0_12 : ByteArray) (a0_13 : Int) (a0_14 : Int) (a0_15 : Int) (a0_16 : Bool) (w : World) :
    Calls Tryd.prog 101 #[.agg #[.int .i64 a0_0, .int .i64 a0_1, .int .i64 a0_2, .int .i64 a0_3, .int .i64 a0_4, .int .i64 a0_5, .string a0_6, .bool a0_7, .int .i64 a0_8, .int .i64 a0_9, .int .i64 a0_10, .string a0_11, .string a0_12, .int .i64 a0_13, .int .i64 a0_14, .int .i64 a0_15, .bool a0_16]] w fun e w' => e = .returned (.int .i64 a0_9) ∧ Below w.heap.size w w' := by
  go_enter Tryd.func101, Tryd.ntmps101
  go_wp2
  go_ret
  exact ⟨rfl, s_alloc (Below.refl _ _) _⟩

set_option maxHeartbeats 1000000 in
theorem tag_2_walk (a0_0 : Int) (a0_1 : Int) (a0_2 : Int) (a0_3 : Int) (a0_4 : Int) (a0_5 : Int) (a0_6 : ByteArray) (a0_7 : Bool) (a0_8 : Int) (a0_9 : Int) (a0_10 : Int) (a0_11 : ByteArray) (a0_12 : ByteArray) (a0_13 : Int) (a0_14 : Int) (a0_15 : Int) (a0_16 : Bool) (w : World) :
    Calls Tryd.prog 102 #[.agg #[.int .i64 a0_0, .int .i64 a0_1, .int .i64 a0_2, .int .i64 a0_3, .int .i64 a0_4, .int .i64 a0_5, .string a0_6, .bool a0_7, .int .i64 a0_8, .int .i64 a0_9, .int .i64 a0_10, .string a0_11, .string a0_12, .int .i64 a0_13, .int .i64 a0_14, .int .i64 a0_15, .bool a0_16]] w fun e w' => e = .returned (.int .i64 a0_10) ∧ Below w.heap.size w w' := by
  go_enter Tryd.func102, Tryd.ntmps102
  go_wp2
  go_ret
  exact ⟨rfl, s_alloc (Below.refl _ _) _⟩

set_option maxHeartbeats 1000000 in
theorem tag_3_walk (a0_0 : Int) (a0_1 : Int) (a0_2 : Int) (a0_3 : Int) (a0_4 : Int) (a0_5 : Int) (a0_6 : ByteArray) (a0_7 : Bool) (a0_8 : Int) (a0_9 : Int) (a0_10 : Int) (a0_11 : ByteArray) (a0_12 : ByteArray) (a0_13 : Int) (a0_14 : Int) (a0_15 : Int) (a0_16 : Bool) (w : World) :
    Calls Tryd.prog 103 #[.agg #[.int .i64 a0_0, .int .i64 a0_1, .int .i64 a0_2, .int .i64 a0_3, .int .i64 a0_4, .int .i64 a0_5, .string a0_6, .bool a0_7, .int .i64 a0_8, .int .i64 a0_9, .int .i64 a0_10, .string a0_11, .string a0_12, .int .i64 a0_13, .int .i64 a0_14, .int .i64 a0_15, .bool a0_16]] w fun e w' => e = .returned (.int .i64 a0_8) ∧ Below w.heap.size w w' := by
  go_enter Tryd.func103, Tryd.ntmps103
  go_wp2
  go_ret
  exact ⟨rfl, s_alloc (Below.refl _ _) _⟩

set_option maxHeartbeats 1000000 in
theorem tag_4_walk (a0_0 : Int) (a0_1 : Int) (a0_2 : Int) (a0_3 : Int) (a0_4 : Int) (a0_5 : Int) (a0_6 : ByteArray) (a0_7 : Bool) (a0_8 : Int) (a0_9 : Int) (a0_10 : Int) (a0_11 : ByteArray) (a0_12 : ByteArray) (a0_13 : Int) (a0_14 : Int) (a0_15 : Int) (a0_16 : Bool) (w : World) :
    Calls Tryd.prog 105 #[.agg #[.int .i64 a0_0, .int .i64 a0_1, .int .i64 a0_2, .int .i64 a0_3, .int .i64 a0_4, .int .i64 a0_5, .string a0_6, .bool a0_7, .int .i64 a0_8, .int .i64 a0_9, .int .i64 a0_10, .string a0_11, .string a0_12, .int .i64 a0_13, .int .i64 a0_14, .int .i64 a0_15, .bool a0_16]] w fun e w' => e = .returned (.bool a0_7) ∧ Below w.heap.size w w' := by
  go_enter Tryd.func105, Tryd.ntmps105
  go_wp2
  go_ret
  exact ⟨rfl, s_alloc (Below.refl _ _) _⟩

set_option maxHeartbeats 1000000 in
theorem tag_5_walk (a0_0 : Int) (a0_1 : Int) (a0_2 : Int) (a0_3 : Int) (a0_4 : Int) (a0_5 : Int) (a0_6 : ByteArray) (a0_7 : Bool) (a0_8 : Int) (a0_9 : Int) (a0_10 : Int) (a0_11 : ByteArray) (a0_12 : ByteArray) (a0_13 : Int) (a0_14 : Int) (a0_15 : Int) (a0_16 : Bool) (w : World) :
    Calls Tryd.prog 106 #[.agg #[.int .i64 a0_0, .int .i64 a0_1, .int .i64 a0_2, .int .i64 a0_3, .int .i64 a0_4, .int .i64 a0_5, .string a0_6, .bool a0_7, .int .i64 a0_8, .int .i64 a0_9, .int .i64 a0_10, .string a0_11, .string a0_12, .int .i64 a0_13, .int .i64 a0_14, .int .i64 a0_15, .bool a0_16]] w fun e w' => e = .returned (.bool a0_16) ∧ Below w.heap.size w w' := by
  go_enter Tryd.func106, Tryd.ntmps106
  go_wp2
  go_ret
  exact ⟨rfl, s_alloc (Below.refl _ _) _⟩

theorem row_cells {W : World} {g : Nat} (a0_0 : Int) (a0_1 : Int) (a0_2 : Int) (a0_3 : Int) (a0_4 : Int) (a0_5 : Int) (a0_6 : ByteArray) (a0_7 : Bool) (a0_8 : Int) (a0_9 : Int) (a0_10 : Int) (a0_11 : ByteArray) (a0_12 : ByteArray) (a0_13 : Int) (a0_14 : Int) (a0_15 : Int) (a0_16 : Bool) (h : W.heap[g]? = some (.cells #[.int .i64 a0_0, .int .i64 a0_1, .int .i64 a0_2, .int .i64 a0_3, .int .i64 a0_4, .int .i64 a0_5, .string a0_6, .bool a0_7, .int .i64 a0_8, .int .i64 a0_9, .int .i64 a0_10, .string a0_11, .string a0_12, .int .i64 a0_13, .int .i64 a0_14, .int .i64 a0_15, .bool a0_16] 25 (0, 0))) : W.cell? ⟨g, 0, none⟩ = some (.int .i64 a0_0) ∧ W.cell? ⟨g, 1, none⟩ = some (.int .i64 a0_1) ∧ W.cell? ⟨g, 2, none⟩ = some (.int .i64 a0_2) ∧ W.cell? ⟨g, 3, none⟩ = some (.int .i64 a0_3) ∧ W.cell? ⟨g, 4, none⟩ = some (.int .i64 a0_4) ∧ W.cell? ⟨g, 5, none⟩ = some (.int .i64 a0_5) ∧ W.cell? ⟨g, 6, none⟩ = some (.string a0_6) ∧ W.cell? ⟨g, 7, none⟩ = some (.bool a0_7) ∧ W.cell? ⟨g, 8, none⟩ = some (.int .i64 a0_8) ∧ W.cell? ⟨g, 9, none⟩ = some (.int .i64 a0_9) ∧ W.cell? ⟨g, 10, none⟩ = some (.int .i64 a0_10) ∧ W.cell? ⟨g, 11, none⟩ = some (.string a0_11) ∧ W.cell? ⟨g, 12, none⟩ = some (.string a0_12) ∧ W.cell? ⟨g, 13, none⟩ = some (.int .i64 a0_13) ∧ W.cell? ⟨g, 14, none⟩ = some (.int .i64 a0_14) ∧ W.cell? ⟨g, 15, none⟩ = some (.int .i64 a0_15) ∧ W.cell? ⟨g, 16, none⟩ = some (.bool a0_16) := ⟨blk_cell h 0, blk_cell h 1, blk_cell h 2, blk_cell h 3, blk_cell h 4, blk_cell h 5, blk_cell h 6, blk_cell h 7, blk_cell h 8, blk_cell h 9, blk_cell h 10, blk_cell h 11, blk_cell h 12, blk_cell h 13, blk_cell h 14, blk_cell h 15, blk_cell h 16⟩

set_option maxHeartbeats 1000000 in
theorem bit1_tag_4 (a0_0 : Int) (a0_1 : Int) (a0_2 : Int) (a0_3 : Int) (a0_4 : Int) (a0_5 : Int) (a0_6 : ByteArray) (a0_7 : Bool) (a0_8 : Int) (a0_9 : Int) (a0_10 : Int) (a0_11 : ByteArray) (a0_12 : ByteArray) (a0_13 : Int) (a0_14 : Int) (a0_15 : Int) (a0_16 : Bool) (b : Bool) (g : Nat) (w : World) (hK : ∀ w, Calls Tryd.prog 105 #[.agg #[.int .i64 a0_0, .int .i64 a0_1, .int .i64 a0_2, .int .i64 a0_3, .int .i64 a0_4, .int .i64 a0_5, .string a0_6, .bool a0_7, .int .i64 a0_8, .int .i64 a0_9, .int .i64 a0_10, .string a0_11, .string a0_12, .int .i64 a0_13, .int .i64 a0_14, .int .i64 a0_15, .bool a0_16]] w fun e w' => e = .returned (.bool b) ∧ Below w.heap.size w w') (hg : w.heap[g]? = some (.cells #[.func (.func 105) #[] #[]] 26 (0, 0))) :
    Calls Tryd.prog 125 #[.agg #[.int .i64 a0_0, .int .i64 a0_1, .int .i64 a0_2, .int .i64 a0_3, .int .i64 a0_4, .int .i64 a0_5, .string a0_6, .bool a0_7, .int .i64 a0_8, .int .i64 a0_9, .int .i64 a0_10, .string a0_11, .string a0_12, .int .i64 a0_13, .int .i64 a0_14, .int .i64 a0_15, .bool a0_16], .pointer (some ⟨g, 0, none⟩)] w fun e w' => e = .returned (.int .i64 (if b = true then 1 else 0)) ∧ Below w.heap.size w w' := by
  have hlt := block_lt hg
  have HK := Lib.hid hK
  have HG := Lib.hid hg
  clear hK hg
  cases b
  all_goals
    go_enter Tryd.func125, Tryd.ntmps125
    go_upto_region 1 with (fail)
    generalize hW : w.alloc (Obj.cells #[Value.int IntKind.i64 a0_0, Value.int IntKind.i64 a0_1, Value.int IntKind.i64 a0_2, Value.int IntKind.i64 a0_3, Value.int IntKind.i64 a0_4, Value.int IntKind.i64 a0_5, Value.string a0_6, Value.bool a0_7, Value.int IntKind.i64 a0_8, Value.int IntKind.i64 a0_9, Value.int IntKind.i64 a0_10, Value.string a0_11, Value.string a0_12, Value.int IntKind.i64 a0_13, Value.int IntKind.i64 a0_14, Value.int IntKind.i64 a0_15, Value.bool a0_16] 25) = W1
    have hr : W1.heap[w.heap.size]? = some (.cells #[.int .i64 a0_0, .int .i64 a0_1, .int .i64 a0_2, .int .i64 a0_3, .int .i64 a0_4, .int .i64 a0_5, .string a0_6, .bool a0_7, .int .i64 a0_8, .int .i64 a0_9, .int .i64 a0_10, .string a0_11, .string a0_12, .int .i64 a0_13, .int .i64 a0_14, .int .i64 a0_15, .bool a0_16] 25 (0, 0)) := by
      rw [← hW]
      exact Array.getElem?_push_size
    have HROW := Lib.hid hr
    have hc0 : W1.cell? ⟨g, 0, none⟩ = some (.func (.func 105) #[] #[]) := by
      rw [← hW]
      exact cells1 (block_alloc HG.out _)
    have HB1 : Hid (Below w.heap.size w W1) := Lib.hid (by rw [← hW]; exact s_alloc (Below.refl _ _) _)
    have HLE := Lib.hid HB1.out.size
    clear hW hr
    go_wp2_with (first | (refine wpList_load_row rfl 25 _ rfl _ rfl 25 _ (0, 0) _ HROW.out Tryd.underlying25 rfl (by kernel_rfl) ?_) | go_at_call 105; refine (HK.out _).mono ?_; rintro e w1 ⟨rfl, hb⟩; have HB := Lib.hid hb; clear hb)
    go_ret
    exact ⟨rfl, HB1.out.trans (HB.out.mono HLE.out)⟩

set_option maxHeartbeats 1000000 in
theorem bit1_late (a0_0 : Int) (a0_1 : Int) (a0_2 : Int) (a0_3 : Int) (a0_4 : Int) (a0_5 : Int) (a0_6 : ByteArray) (a0_7 : Bool) (a0_8 : Int) (a0_9 : Int) (a0_10 : Int) (a0_11 : ByteArray) (a0_12 : ByteArray) (a0_13 : Int) (a0_14 : Int) (a0_15 : Int) (a0_16 : Bool) (b : Bool) (g : Nat) (w : World) (hK : ∀ w, Calls Tryd.prog 31 #[.agg #[.int .i64 a0_0, .int .i64 a0_1, .int .i64 a0_2, .int .i64 a0_3, .int .i64 a0_4, .int .i64 a0_5, .string a0_6, .bool a0_7, .int .i64 a0_8, .int .i64 a0_9, .int .i64 a0_10, .string a0_11, .string a0_12, .int .i64 a0_13, .int .i64 a0_14, .int .i64 a0_15, .bool a0_16]] w fun e w' => e = .returned (.bool b) ∧ Below w.heap.size w w') (hg : w.heap[g]? = some (.cells #[.func (.func 31) #[] #[]] 26 (0, 0))) :
    Calls Tryd.prog 125 #[.agg #[.int .i64 a0_0, .int .i64 a0_1, .int .i64 a0_2, .int .i64 a0_3, .int .i64 a0_4, .int .i64 a0_5, .string a0_6, .bool a0_7, .int .i64 a0_8, .int .i64 a0_9, .int .i64 a0_10, .string a0_11, .string a0_12, .int .i64 a0_13, .int .i64 a0_14, .int .i64 a0_15, .bool a0_16], .pointer (some ⟨g, 0, none⟩)] w fun e w' => e = .returned (.int .i64 (if b = true then 1 else 0)) ∧ Below w.heap.size w w' := by
  have hlt := block_lt hg
  have HK := Lib.hid hK
  have HG := Lib.hid hg
  clear hK hg
  cases b
  all_goals
    go_enter Tryd.func125, Tryd.ntmps125
    go_upto_region 1 with (fail)
    generalize hW : w.alloc (Obj.cells #[Value.int IntKind.i64 a0_0, Value.int IntKind.i64 a0_1, Value.int IntKind.i64 a0_2, Value.int IntKind.i64 a0_3, Value.int IntKind.i64 a0_4, Value.int IntKind.i64 a0_5, Value.string a0_6, Value.bool a0_7, Value.int IntKind.i64 a0_8, Value.int IntKind.i64 a0_9, Value.int IntKind.i64 a0_10, Value.string a0_11, Value.string a0_12, Value.int IntKind.i64 a0_13, Value.int IntKind.i64 a0_14, Value.int IntKind.i64 a0_15, Value.bool a0_16] 25) = W1
    have hr : W1.heap[w.heap.size]? = some (.cells #[.int .i64 a0_0, .int .i64 a0_1, .int .i64 a0_2, .int .i64 a0_3, .int .i64 a0_4, .int .i64 a0_5, .string a0_6, .bool a0_7, .int .i64 a0_8, .int .i64 a0_9, .int .i64 a0_10, .string a0_11, .string a0_12, .int .i64 a0_13, .int .i64 a0_14, .int .i64 a0_15, .bool a0_16] 25 (0, 0)) := by
      rw [← hW]
      exact Array.getElem?_push_size
    have HROW := Lib.hid hr
    have hc0 : W1.cell? ⟨g, 0, none⟩ = some (.func (.func 31) #[] #[]) := by
      rw [← hW]
      exact cells1 (block_alloc HG.out _)
    have HB1 : Hid (Below w.heap.size w W1) := Lib.hid (by rw [← hW]; exact s_alloc (Below.refl _ _) _)
    have HLE := Lib.hid HB1.out.size
    clear hW hr
    go_wp2_with (first | (refine wpList_load_row rfl 25 _ rfl _ rfl 25 _ (0, 0) _ HROW.out Tryd.underlying25 rfl (by kernel_rfl) ?_) | go_at_call 31; refine (HK.out _).mono ?_; rintro e w1 ⟨rfl, hb⟩; have HB := Lib.hid hb; clear hb)
    go_ret
    exact ⟨rfl, HB1.out.trans (HB.out.mono HLE.out)⟩

set_option maxHeartbeats 1000000 in
theorem bit1_tag_5 (a0_0 : Int) (a0_1 : Int) (a0_2 : Int) (a0_3 : Int) (a0_4 : Int) (a0_5 : Int) (a0_6 : ByteArray) (a0_7 : Bool) (a0_8 : Int) (a0_9 : Int) (a0_10 : Int) (a0_11 : ByteArray) (a0_12 : ByteArray) (a0_13 : Int) (a0_14 : Int) (a0_15 : Int) (a0_16 : Bool) (b : Bool) (g : Nat) (w : World) (hK : ∀ w, Calls Tryd.prog 106 #[.agg #[.int .i64 a0_0, .int .i64 a0_1, .int .i64 a0_2, .int .i64 a0_3, .int .i64 a0_4, .int .i64 a0_5, .string a0_6, .bool a0_7, .int .i64 a0_8, .int .i64 a0_9, .int .i64 a0_10, .string a0_11, .string a0_12, .int .i64 a0_13, .int .i64 a0_14, .int .i64 a0_15, .bool a0_16]] w fun e w' => e = .returned (.bool b) ∧ Below w.heap.size w w') (hg : w.heap[g]? = some (.cells #[.func (.func 106) #[] #[]] 26 (0, 0))) :
    Calls Tryd.prog 125 #[.agg #[.int .i64 a0_0, .int .i64 a0_1, .int .i64 a0_2, .int .i64 a0_3, .int .i64 a0_4, .int .i64 a0_5, .string a0_6, .bool a0_7, .int .i64 a0_8, .int .i64 a0_9, .int .i64 a0_10, .string a0_11, .string a0_12, .int .i64 a0_13, .int .i64 a0_14, .int .i64 a0_15, .bool a0_16], .pointer (some ⟨g, 0, none⟩)] w fun e w' => e = .returned (.int .i64 (if b = true then 1 else 0)) ∧ Below w.heap.size w w' := by
  have hlt := block_lt hg
  have HK := Lib.hid hK
  have HG := Lib.hid hg
  clear hK hg
  cases b
  all_goals
    go_enter Tryd.func125, Tryd.ntmps125
    go_upto_region 1 with (fail)
    generalize hW : w.alloc (Obj.cells #[Value.int IntKind.i64 a0_0, Value.int IntKind.i64 a0_1, Value.int IntKind.i64 a0_2, Value.int IntKind.i64 a0_3, Value.int IntKind.i64 a0_4, Value.int IntKind.i64 a0_5, Value.string a0_6, Value.bool a0_7, Value.int IntKind.i64 a0_8, Value.int IntKind.i64 a0_9, Value.int IntKind.i64 a0_10, Value.string a0_11, Value.string a0_12, Value.int IntKind.i64 a0_13, Value.int IntKind.i64 a0_14, Value.int IntKind.i64 a0_15, Value.bool a0_16] 25) = W1
    have hr : W1.heap[w.heap.size]? = some (.cells #[.int .i64 a0_0, .int .i64 a0_1, .int .i64 a0_2, .int .i64 a0_3, .int .i64 a0_4, .int .i64 a0_5, .string a0_6, .bool a0_7, .int .i64 a0_8, .int .i64 a0_9, .int .i64 a0_10, .string a0_11, .string a0_12, .int .i64 a0_13, .int .i64 a0_14, .int .i64 a0_15, .bool a0_16] 25 (0, 0)) := by
      rw [← hW]
      exact Array.getElem?_push_size
    have HROW := Lib.hid hr
    have hc0 : W1.cell? ⟨g, 0, none⟩ = some (.func (.func 106) #[] #[]) := by
      rw [← hW]
      exact cells1 (block_alloc HG.out _)
    have HB1 : Hid (Below w.heap.size w W1) := Lib.hid (by rw [← hW]; exact s_alloc (Below.refl _ _) _)
    have HLE := Lib.hid HB1.out.size
    clear hW hr
    go_wp2_with (first | (refine wpList_load_row rfl 25 _ rfl _ rfl 25 _ (0, 0) _ HROW.out Tryd.underlying25 rfl (by kernel_rfl) ?_) | go_at_call 106; refine (HK.out _).mono ?_; rintro e w1 ⟨rfl, hb⟩; have HB := Lib.hid hb; clear hb)
    go_ret
    exact ⟨rfl, HB1.out.trans (HB.out.mono HLE.out)⟩

end Go.Proofs.YtlciddgncngniaaDoor.EN
