/-
  entry.field, entry.tag, entry.bit, the closures that they hand back: their contracts.
-/
import Derived.Laws.EntriesVeiled
import Derived.Laws.Rows
import Derived.Test.YtnaglnifpejpjaaGreatDoorRMA
import Derived.Test.YtnaglnifpejpjaaGreatDoorRWWords
import Derived.Test.YtnaglnifpejpjaaGreatDoorRWLast
namespace Go.Proofs.YtnaglnifpejpjaaGreatDoor.EN
open Go.RowKit Go.Proofs.YtnaglnifpejpjaaGreatDoorW.PrintWords Go.Proofs.YtnaglnifpejpjaaGreatDoorK
set_option linter.unusedVariables false
set_option linter.unusedSimpArgs false
set_option linter.unnecessarySimpa false

set_option maxHeartbeats 1000000 in
theorem bit_walk (k : Nat) (w : World) :
 Calls Tryz.prog 144 #[.func (.func k) #[] #[]] w fun e w' => ∃ g : Nat, e = .returned (.agg #[.func (.func 173) #[] #[.pointer (some ⟨g, 0, none⟩)]]) ∧ w'.heap[g]? = some (.cells #[.func (.func k) #[] #[]] 67 (0, 0)) ∧ w.heap.size ≤ g ∧ Below w.heap.size w w' := by
 have hmf : ∀ (fn : Fn) (first cap : Array Value) (w : World), (Instr.makeFunc fn first cap).run Tryz.prog w = .ok (.func fn first cap) w := fun _ _ _ _ => rfl
 go_enter Tryz.func144, Tryz.ntmps144
 go_wp2
 refine bodyPost_ret (by simp [results, Tryz.results144, go_sem]) rfl ⟨w.heap.size, rfl, ?_, Nat.le_refl _, ?_⟩
 ·first | (rw [Go.heap_alloc2_old]; done) | (refine set_ne (by rw [Go.heap_alloc2_old]) ?_; simp)
 ·first | exact s_alloc (s_alloc (Below.refl _ _) _) _ | (refine s_set (s_alloc (s_alloc (Below.refl _ _) _) _) _ _ ?_; simp)
set_option maxHeartbeats 1000000 in
theorem field_base (s : ByteArray) (w : World) (h : s.toList = [98, 97, 115, 101]) :
 Calls Tryz.prog 134 #[.string s] w (fun e w' => e = .returned (.tuple #[.agg #[.func (.func 166) #[] #[]], .bool true]) ∧ Below w.heap.size w w') := by
 have hmf : ∀ (fn : Fn) (first cap : Array Value) (w : World), (Instr.makeFunc fn first cap).run Tryz.prog w = .ok (.func fn first cap) w := fun _ _ _ _ => rfl
 have b0 : (s.toList == [98, 97, 115, 101]) = true := by simp [h]
 clear h
 go_enter Tryz.func134, Tryz.ntmps134
 go_wp2
 refine bodyPost_ret (by simp [results, Tryz.results134, go_sem]) rfl ⟨rfl, ?_⟩
 first | exact s_alloc (Below.refl _ _) _ | (refine s_set (s_alloc (Below.refl _ _) _) _ _ ?_; exact Nat.le_refl _)
set_option maxHeartbeats 1000000 in
theorem field_tax (s : ByteArray) (w : World) (h : s.toList = [116, 97, 120]) :
 Calls Tryz.prog 134 #[.string s] w (fun e w' => e = .returned (.tuple #[.agg #[.func (.func 167) #[] #[]], .bool true]) ∧ Below w.heap.size w w') := by
 have hmf : ∀ (fn : Fn) (first cap : Array Value) (w : World), (Instr.makeFunc fn first cap).run Tryz.prog w = .ok (.func fn first cap) w := fun _ _ _ _ => rfl
 have b0 : (s.toList == [98, 97, 115, 101]) = false := by simp [h]
 have b1 : (s.toList == [116, 97, 120]) = true := by simp [h]
 clear h
 go_enter Tryz.func134, Tryz.ntmps134
 go_wp2
 refine bodyPost_ret (by simp [results, Tryz.results134, go_sem]) rfl ⟨rfl, ?_⟩
 first | exact s_alloc (Below.refl _ _) _ | (refine s_set (s_alloc (Below.refl _ _) _) _ _ ?_; exact Nat.le_refl _)
set_option maxHeartbeats 1000000 in
theorem field_out (s : ByteArray) (w : World) (h : s.toList = [111, 117, 116]) :
 Calls Tryz.prog 134 #[.string s] w (fun e w' => e = .returned (.tuple #[.agg #[.func (.func 168) #[] #[]], .bool true]) ∧ Below w.heap.size w w') := by
 have hmf : ∀ (fn : Fn) (first cap : Array Value) (w : World), (Instr.makeFunc fn first cap).run Tryz.prog w = .ok (.func fn first cap) w := fun _ _ _ _ => rfl
 have b0 : (s.toList == [98, 97, 115, 101]) = false := by simp [h]
 have b1 : (s.toList == [116, 97, 120]) = false := by simp [h]
 have b2 : (s.toList == [111, 117, 116]) = true := by simp [h]
 clear h
 go_enter Tryz.func134, Tryz.ntmps134
 go_wp2
 refine bodyPost_ret (by simp [results, Tryz.results134, go_sem]) rfl ⟨rfl, ?_⟩
 first | exact s_alloc (Below.refl _ _) _ | (refine s_set (s_alloc (Below.refl _ _) _) _ _ ?_; exact Nat.le_refl _)
set_option maxHeartbeats 1000000 in
theorem field_in (s : ByteArray) (w : World) (h : s.toList = [105, 110]) :
 Calls Tryz.prog 134 #[.string s] w (fun e w' => e = .returned (.tuple #[.agg #[.func (.func 169) #[] #[]], .bool true]) ∧ Below w.heap.size w w') := by
 have hmf : ∀ (fn : Fn) (first cap : Array Value) (w : World), (Instr.makeFunc fn first cap).run Tryz.prog w = .ok (.func fn first cap) w := fun _ _ _ _ => rfl
 have b0 : (s.toList == [98, 97, 115, 101]) = false := by simp [h]
 have b1 : (s.toList == [116, 97, 120]) = false := by simp [h]
 have b2 : (s.toList == [111, 117, 116]) = false := by simp [h]
 have b3 : (s.toList == [105, 110]) = true := by simp [h]
 clear h
 go_enter Tryz.func134, Tryz.ntmps134
 go_wp2
 refine bodyPost_ret (by simp [results, Tryz.results134, go_sem]) rfl ⟨rfl, ?_⟩
 first | exact s_alloc (Below.refl _ _) _ | (refine s_set (s_alloc (Below.refl _ _) _) _ _ ?_; exact Nat.le_refl _)
set_option maxHeartbeats 1000000 in
theorem field_none (s : ByteArray) (w : World) (h0 : s.toList ≠ [98, 97, 115, 101]) (h1 : s.toList ≠ [116, 97, 120]) (h2 : s.toList ≠ [111, 117, 116]) (h3 : s.toList ≠ [105, 110]) :
 Calls Tryz.prog 134 #[.string s] w (fun e w' => e = .returned (.tuple #[.agg #[.nilFunc], .bool false]) ∧ Below w.heap.size w w') := by
 have hmf : ∀ (fn : Fn) (first cap : Array Value) (w : World), (Instr.makeFunc fn first cap).run Tryz.prog w = .ok (.func fn first cap) w := fun _ _ _ _ => rfl
 have b0 : (s.toList == [98, 97, 115, 101]) = false := by simpa using h0
 have b1 : (s.toList == [116, 97, 120]) = false := by simpa using h1
 have b2 : (s.toList == [111, 117, 116]) = false := by simpa using h2
 have b3 : (s.toList == [105, 110]) = false := by simpa using h3
 clear h0 h1 h2 h3
 go_enter Tryz.func134, Tryz.ntmps134
 go_wp2
 refine bodyPost_ret (by simp [results, Tryz.results134, go_sem]) rfl ⟨rfl, ?_⟩
 first | exact s_alloc (Below.refl _ _) _ | (refine s_set (s_alloc (Below.refl _ _) _) _ _ ?_; exact Nat.le_refl _)
set_option maxHeartbeats 1000000 in
theorem tag_treat (s : ByteArray) (w : World) (h : s.toList = [116, 114, 101, 97, 116]) :
 Calls Tryz.prog 114 #[.string s] w (fun e w' => e = .returned (.tuple #[.agg #[.func (.func 141) #[] #[]], .bool true]) ∧ Below w.heap.size w w') := by
 have hmf : ∀ (fn : Fn) (first cap : Array Value) (w : World), (Instr.makeFunc fn first cap).run Tryz.prog w = .ok (.func fn first cap) w := fun _ _ _ _ => rfl
 have b0 : (s.toList == [116, 114, 101, 97, 116]) = true := by simp [h]
 clear h
 go_enter Tryz.func114, Tryz.ntmps114
 go_wp2
 refine bodyPost_ret (by simp [results, Tryz.results114, go_sem]) rfl ⟨rfl, ?_⟩
 first | exact s_alloc (Below.refl _ _) _ | (refine s_set (s_alloc (Below.refl _ _) _) _ _ ?_; exact Nat.le_refl _)
set_option maxHeartbeats 1000000 in
theorem tag_rate (s : ByteArray) (w : World) (h : s.toList = [114, 97, 116, 101]) :
 Calls Tryz.prog 114 #[.string s] w (fun e w' => e = .returned (.tuple #[.agg #[.func (.func 142) #[] #[]], .bool true]) ∧ Below w.heap.size w w') := by
 have hmf : ∀ (fn : Fn) (first cap : Array Value) (w : World), (Instr.makeFunc fn first cap).run Tryz.prog w = .ok (.func fn first cap) w := fun _ _ _ _ => rfl
 have b0 : (s.toList == [116, 114, 101, 97, 116]) = false := by simp [h]
 have b1 : (s.toList == [114, 97, 116, 101]) = true := by simp [h]
 clear h
 go_enter Tryz.func114, Tryz.ntmps114
 go_wp2
 refine bodyPost_ret (by simp [results, Tryz.results114, go_sem]) rfl ⟨rfl, ?_⟩
 first | exact s_alloc (Below.refl _ _) _ | (refine s_set (s_alloc (Below.refl _ _) _) _ _ ?_; exact Nat.le_refl _)
set_option maxHeartbeats 1000000 in
theorem tag_supply (s : ByteArray) (w : World) (h : s.toList = [115, 117, 112, 112, 108, 121]) :
 Calls Tryz.prog 114 #[.string s] w (fun e w' => e = .returned (.tuple #[.agg #[.func (.func 143) #[] #[]], .bool true]) ∧ Below w.heap.size w w') := by
 have hmf : ∀ (fn : Fn) (first cap : Array Value) (w : World), (Instr.makeFunc fn first cap).run Tryz.prog w = .ok (.func fn first cap) w := fun _ _ _ _ => rfl
 have b0 : (s.toList == [116, 114, 101, 97, 116]) = false := by simp [h]
 have b1 : (s.toList == [114, 97, 116, 101]) = false := by simp [h]
 have b2 : (s.toList == [115, 117, 112, 112, 108, 121]) = true := by simp [h]
 clear h
 go_enter Tryz.func114, Tryz.ntmps114
 go_wp2
 refine bodyPost_ret (by simp [results, Tryz.results114, go_sem]) rfl ⟨rfl, ?_⟩
 first | exact s_alloc (Below.refl _ _) _ | (refine s_set (s_alloc (Below.refl _ _) _) _ _ ?_; exact Nat.le_refl _)
set_option maxHeartbeats 1000000 in
theorem tag_sale (s : ByteArray) (w : World) (h : s.toList = [115, 97, 108, 101]) :
 Calls Tryz.prog 114 #[.string s] w (fun e w' => ∃ g : Nat, e = .returned (.tuple #[.agg #[.func (.func 173) #[] #[.pointer (some ⟨g, 0, none⟩)]], .bool true]) ∧ w'.heap[g]? = some (.cells #[.func (.func 145) #[] #[]] 67 (0, 0)) ∧ w.heap.size ≤ g ∧ Below w.heap.size w w') := by
 have hmf : ∀ (fn : Fn) (first cap : Array Value) (w : World), (Instr.makeFunc fn first cap).run Tryz.prog w = .ok (.func fn first cap) w := fun _ _ _ _ => rfl
 have b0 : (s.toList == [116, 114, 101, 97, 116]) = false := by simp [h]
 have b1 : (s.toList == [114, 97, 116, 101]) = false := by simp [h]
 have b2 : (s.toList == [115, 117, 112, 112, 108, 121]) = false := by simp [h]
 have b3 : (s.toList == [115, 97, 108, 101]) = true := by simp [h]
 clear h
 go_enter Tryz.func114, Tryz.ntmps114
 go_wp2_with (go_at_call 144; refine (bit_walk _ _).mono ?_; rintro e w1 ⟨g, rfl, hg, hgg, hb⟩; have HB := Lib.hid hb; have HG := Lib.hid hg; have hk0 := block_kept hb; have hc0 := cells1 hk0; have hf0 := blockFree hk0 0; clear hk0; have hgn : g ≠ w.heap.size := (by simp at hgg; omega); have HGN := Lib.hid hgn; clear hgn hb hg)
 refine bodyPost_ret (by simp [results, Tryz.results114, go_sem, hc0]) rfl ⟨g, rfl, ?_, ?_, ?_⟩
 ·exact set_ne HG.out HGN.out
 ·simp at hgg; omega
 ·exact s_set (s_trans (s_alloc (Below.refl _ _) _) HB.out) _ _ (Nat.le_refl _)
set_option maxHeartbeats 1000000 in
theorem tag_late (s : ByteArray) (w : World) (h : s.toList = [108, 97, 116, 101]) :
 Calls Tryz.prog 114 #[.string s] w (fun e w' => ∃ g : Nat, e = .returned (.tuple #[.agg #[.func (.func 173) #[] #[.pointer (some ⟨g, 0, none⟩)]], .bool true]) ∧ w'.heap[g]? = some (.cells #[.func (.func 146) #[] #[]] 67 (0, 0)) ∧ w.heap.size ≤ g ∧ Below w.heap.size w w') := by
 have hmf : ∀ (fn : Fn) (first cap : Array Value) (w : World), (Instr.makeFunc fn first cap).run Tryz.prog w = .ok (.func fn first cap) w := fun _ _ _ _ => rfl
 have b0 : (s.toList == [116, 114, 101, 97, 116]) = false := by simp [h]
 have b1 : (s.toList == [114, 97, 116, 101]) = false := by simp [h]
 have b2 : (s.toList == [115, 117, 112, 112, 108, 121]) = false := by simp [h]
 have b3 : (s.toList == [115, 97, 108, 101]) = false := by simp [h]
 have b4 : (s.toList == [108, 97, 116, 101]) = true := by simp [h]
 clear h
 go_enter Tryz.func114, Tryz.ntmps114
 go_wp2_with (go_at_call 144; refine (bit_walk _ _).mono ?_; rintro e w1 ⟨g, rfl, hg, hgg, hb⟩; have HB := Lib.hid hb; have HG := Lib.hid hg; have hk0 := block_kept hb; have hc0 := cells1 hk0; have hf0 := blockFree hk0 0; clear hk0; have hgn : g ≠ w.heap.size := (by simp at hgg; omega); have HGN := Lib.hid hgn; clear hgn hb hg)
 refine bodyPost_ret (by simp [results, Tryz.results114, go_sem, hc0]) rfl ⟨g, rfl, ?_, ?_, ?_⟩
 ·exact set_ne HG.out HGN.out
 ·simp at hgg; omega
 ·exact s_set (s_trans (s_alloc (Below.refl _ _) _) HB.out) _ _ (Nat.le_refl _)
set_option maxHeartbeats 1000000 in
theorem tag_mixed (s : ByteArray) (w : World) (h : s.toList = [109, 105, 120, 101, 100]) :
 Calls Tryz.prog 114 #[.string s] w (fun e w' => ∃ g : Nat, e = .returned (.tuple #[.agg #[.func (.func 173) #[] #[.pointer (some ⟨g, 0, none⟩)]], .bool true]) ∧ w'.heap[g]? = some (.cells #[.func (.func 147) #[] #[]] 67 (0, 0)) ∧ w.heap.size ≤ g ∧ Below w.heap.size w w') := by
 have hmf : ∀ (fn : Fn) (first cap : Array Value) (w : World), (Instr.makeFunc fn first cap).run Tryz.prog w = .ok (.func fn first cap) w := fun _ _ _ _ => rfl
 have b0 : (s.toList == [116, 114, 101, 97, 116]) = false := by simp [h]
 have b1 : (s.toList == [114, 97, 116, 101]) = false := by simp [h]
 have b2 : (s.toList == [115, 117, 112, 112, 108, 121]) = false := by simp [h]
 have b3 : (s.toList == [115, 97, 108, 101]) = false := by simp [h]
 have b4 : (s.toList == [108, 97, 116, 101]) = false := by simp [h]
 have b5 : (s.toList == [109, 105, 120, 101, 100]) = true := by simp [h]
 clear h
 go_enter Tryz.func114, Tryz.ntmps114
 go_wp2_with (go_at_call 144; refine (bit_walk _ _).mono ?_; rintro e w1 ⟨g, rfl, hg, hgg, hb⟩; have HB := Lib.hid hb; have HG := Lib.hid hg; have hk0 := block_kept hb; have hc0 := cells1 hk0; have hf0 := blockFree hk0 0; clear hk0; have hgn : g ≠ w.heap.size := (by simp at hgg; omega); have HGN := Lib.hid hgn; clear hgn hb hg)
 refine bodyPost_ret (by simp [results, Tryz.results114, go_sem, hc0]) rfl ⟨g, rfl, ?_, ?_, ?_⟩
 ·exact set_ne HG.out HGN.out
 ·simp at hgg; omega
 ·exact s_set (s_trans (s_alloc (Below.refl _ _) _) HB.out) _ _ (Nat.le_refl _)
set_option maxHeartbeats 1000000 in
theorem tag_none (s : ByteArray) (w : World) (h0 : s.toList ≠ [116, 114, 101, 97, 116]) (h1 : s.toList ≠ [114, 97, 116, 101]) (h2 : s.toList ≠ [115, 117, 112, 112, 108, 121]) (h3 : s.toList ≠ [115, 97, 108, 101]) (h4 : s.toList ≠ [108, 97, 116, 101]) (h5 : s.toList ≠ [109, 105, 120, 101, 100]) :
 Calls Tryz.prog 114 #[.string s] w (fun e w' => e = .returned (.tuple #[.agg #[.nilFunc], .bool false]) ∧ Below w.heap.size w w') := by
 have hmf : ∀ (fn : Fn) (first cap : Array Value) (w : World), (Instr.makeFunc fn first cap).run Tryz.prog w = .ok (.func fn first cap) w := fun _ _ _ _ => rfl
 have b0 : (s.toList == [116, 114, 101, 97, 116]) = false := by simpa using h0
 have b1 : (s.toList == [114, 97, 116, 101]) = false := by simpa using h1
 have b2 : (s.toList == [115, 117, 112, 112, 108, 121]) = false := by simpa using h2
 have b3 : (s.toList == [115, 97, 108, 101]) = false := by simpa using h3
 have b4 : (s.toList == [108, 97, 116, 101]) = false := by simpa using h4
 have b5 : (s.toList == [109, 105, 120, 101, 100]) = false := by simpa using h5
 clear h0 h1 h2 h3 h4 h5
 go_enter Tryz.func114, Tryz.ntmps114
 go_wp2
 refine bodyPost_ret (by simp [results, Tryz.results114, go_sem]) rfl ⟨rfl, ?_⟩
 first | exact s_alloc (Below.refl _ _) _ | (refine s_set (s_alloc (Below.refl _ _) _) _ _ ?_; exact Nat.le_refl _)

set_option maxHeartbeats 1000000 in
theorem field_1_walk (a0_0 : Int) (a0_1 : Int) (a0_2 : Int) (a0_3 : Int) (a0_4 : Int) (a0_5 : Int) (a0_6 : ByteArray) (a0_7 : Bool) (a0_8 : Int) (a0_9 : Int) (a0_10 : Int) (a0_11 : ByteArray) (a0_12 : ByteArray) (a0_13 : Int) (a0_14 : Int) (a0_15 : Int) (a0_16 : Bool) (w : World) :
 Calls Tryz.prog 166 #[.agg #[.int .i64 a0_0, .int .i64 a0_1, .int .i64 a0_2, .int .i64 a0_3, .int .i64 a0_4, .int .i64 a0_5, .string a0_6, .bool a0_7, .int .i64 a0_8, .int .i64 a0_9, .int .i64 a0_10, .string a0_11, .string a0_12, .int .i64 a0_13, .int .i64 a0_14, .int .i64 a0_15, .bool a0_16]] w fun e w' => e = .returned (.int .i64 a0_13) ∧ Below w.heap.size w w' := by
 go_enter Tryz.func166, Tryz.ntmps166
 go_wp2
 go_ret
 exact ⟨rfl, s_alloc (Below.refl _ _) _⟩

set_option maxHeartbeats 1000000 in
theorem field_2_walk (a0_0 : Int) (a0_1 : Int) (a0_2 : Int) (a0_3 : Int) (a0_4 : Int) (a0_5 : Int) (a0_6 : ByteArray) (a0_7 : Bool) (a0_8 : Int) (a0_9 : Int) (a0_10 : Int) (a0_11 : ByteArray) (a0_12 : ByteArray) (a0_13 : Int) (a0_14 : Int) (a0_15 : Int) (a0_16 : Bool) (w : World) :
 Calls Tryz.prog 167 #[.agg #[.int .i64 a0_0, .int .i64 a0_1, .int .i64 a0_2, .int .i64 a0_3, .int .i64 a0_4, .int .i64 a0_5, .string a0_6, .bool a0_7, .int .i64 a0_8, .int .i64 a0_9, .int .i64 a0_10, .string a0_11, .string a0_12, .int .i64 a0_13, .int .i64 a0_14, .int .i64 a0_15, .bool a0_16]] w fun e w' => e = .returned (.int .i64 a0_14) ∧ Below w.heap.size w w' := by
 go_enter Tryz.func167, Tryz.ntmps167
 go_wp2
 go_ret
 exact ⟨rfl, s_alloc (Below.refl _ _) _⟩

set_option maxHeartbeats 1000000 in
theorem field_3_walk (a0_0 : Int) (a0_1 : Int) (a0_2 : Int) (a0_3 : Int) (a0_4 : Int) (a0_5 : Int) (a0_6 : ByteArray) (a0_7 : Bool) (a0_8 : Int) (a0_9 : Int) (a0_10 : Int) (a0_11 : ByteArray) (a0_12 : ByteArray) (a0_13 : Int) (a0_14 : Int) (a0_15 : Int) (a0_16 : Bool) (w : World) :
 Calls Tryz.prog 169 #[.agg #[.int .i64 a0_0, .int .i64 a0_1, .int .i64 a0_2, .int .i64 a0_3, .int .i64 a0_4, .int .i64 a0_5, .string a0_6, .bool a0_7, .int .i64 a0_8, .int .i64 a0_9, .int .i64 a0_10, .string a0_11, .string a0_12, .int .i64 a0_13, .int .i64 a0_14, .int .i64 a0_15, .bool a0_16]] w fun e w' => e = .returned (.int .i64 a0_15) ∧ Below w.heap.size w w' := by
 go_enter Tryz.func169, Tryz.ntmps169
 go_wp2
 go_ret
 exact ⟨rfl, s_alloc (Below.refl _ _) _⟩

set_option maxHeartbeats 1000000 in
theorem tag_1_walk (a0_0 : Int) (a0_1 : Int) (a0_2 : Int) (a0_3 : Int) (a0_4 : Int) (a0_5 : Int) (a0_6 : ByteArray) (a0_7 : Bool) (a0_8 : Int) (a0_9 : Int) (a0_10 : Int) (a0_11 : ByteArray) (a0_12 : ByteArray) (a0_13 : Int) (a0_14 : Int) (a0_15 : Int) (a0_16 : Bool) (w : World) :
 Calls Tryz.prog 141 #[.agg #[.int .i64 a0_0, .int .i64 a0_1, .int .i64 a0_2, .int .i64 a0_3, .int .i64 a0_4, .int .i64 a0_5, .string a0_6, .bool a0_7, .int .i64 a0_8, .int .i64 a0_9, .int .i64 a0_10, .string a0_11, .string a0_12, .int .i64 a0_13, .int .i64 a0_14, .int .i64 a0_15, .bool a0_16]] w fun e w' => e = .returned (.int .i64 a0_9) ∧ Below w.heap.size w w' := by
 go_enter Tryz.func141, Tryz.ntmps141
 go_wp2
 go_ret
 exact ⟨rfl, s_alloc (Below.refl _ _) _⟩

set_option maxHeartbeats 1000000 in
theorem tag_2_walk (a0_0 : Int) (a0_1 : Int) (a0_2 : Int) (a0_3 : Int) (a0_4 : Int) (a0_5 : Int) (a0_6 : ByteArray) (a0_7 : Bool) (a0_8 : Int) (a0_9 : Int) (a0_10 : Int) (a0_11 : ByteArray) (a0_12 : ByteArray) (a0_13 : Int) (a0_14 : Int) (a0_15 : Int) (a0_16 : Bool) (w : World) :
 Calls Tryz.prog 142 #[.agg #[.int .i64 a0_0, .int .i64 a0_1, .int .i64 a0_2, .int .i64 a0_3, .int .i64 a0_4, .int .i64 a0_5, .string a0_6, .bool a0_7, .int .i64 a0_8, .int .i64 a0_9, .int .i64 a0_10, .string a0_11, .string a0_12, .int .i64 a0_13, .int .i64 a0_14, .int .i64 a0_15, .bool a0_16]] w fun e w' => e = .returned (.int .i64 a0_10) ∧ Below w.heap.size w w' := by
 go_enter Tryz.func142, Tryz.ntmps142
 go_wp2
 go_ret
 exact ⟨rfl, s_alloc (Below.refl _ _) _⟩

set_option maxHeartbeats 1000000 in
theorem tag_3_walk (a0_0 : Int) (a0_1 : Int) (a0_2 : Int) (a0_3 : Int) (a0_4 : Int) (a0_5 : Int) (a0_6 : ByteArray) (a0_7 : Bool) (a0_8 : Int) (a0_9 : Int) (a0_10 : Int) (a0_11 : ByteArray) (a0_12 : ByteArray) (a0_13 : Int) (a0_14 : Int) (a0_15 : Int) (a0_16 : Bool) (w : World) :
 Calls Tryz.prog 143 #[.agg #[.int .i64 a0_0, .int .i64 a0_1, .int .i64 a0_2, .int .i64 a0_3, .int .i64 a0_4, .int .i64 a0_5, .string a0_6, .bool a0_7, .int .i64 a0_8, .int .i64 a0_9, .int .i64 a0_10, .string a0_11, .string a0_12, .int .i64 a0_13, .int .i64 a0_14, .int .i64 a0_15, .bool a0_16]] w fun e w' => e = .returned (.int .i64 a0_8) ∧ Below w.heap.size w w' := by
 go_enter Tryz.func143, Tryz.ntmps143
 go_wp2
 go_ret
 exact ⟨rfl, s_alloc (Below.refl _ _) _⟩

set_option maxHeartbeats 1000000 in
theorem tag_4_walk (a0_0 : Int) (a0_1 : Int) (a0_2 : Int) (a0_3 : Int) (a0_4 : Int) (a0_5 : Int) (a0_6 : ByteArray) (a0_7 : Bool) (a0_8 : Int) (a0_9 : Int) (a0_10 : Int) (a0_11 : ByteArray) (a0_12 : ByteArray) (a0_13 : Int) (a0_14 : Int) (a0_15 : Int) (a0_16 : Bool) (w : World) :
 Calls Tryz.prog 145 #[.agg #[.int .i64 a0_0, .int .i64 a0_1, .int .i64 a0_2, .int .i64 a0_3, .int .i64 a0_4, .int .i64 a0_5, .string a0_6, .bool a0_7, .int .i64 a0_8, .int .i64 a0_9, .int .i64 a0_10, .string a0_11, .string a0_12, .int .i64 a0_13, .int .i64 a0_14, .int .i64 a0_15, .bool a0_16]] w fun e w' => e = .returned (.bool a0_7) ∧ Below w.heap.size w w' := by
 go_enter Tryz.func145, Tryz.ntmps145
 go_wp2
 go_ret
 exact ⟨rfl, s_alloc (Below.refl _ _) _⟩

set_option maxHeartbeats 1000000 in
theorem tag_5_walk (a0_0 : Int) (a0_1 : Int) (a0_2 : Int) (a0_3 : Int) (a0_4 : Int) (a0_5 : Int) (a0_6 : ByteArray) (a0_7 : Bool) (a0_8 : Int) (a0_9 : Int) (a0_10 : Int) (a0_11 : ByteArray) (a0_12 : ByteArray) (a0_13 : Int) (a0_14 : Int) (a0_15 : Int) (a0_16 : Bool) (w : World) :
 Calls Tryz.prog 147 #[.agg #[.int .i64 a0_0, .int .i64 a0_1, .int .i64 a0_2, .int .i64 a0_3, .int .i64 a0_4, .int .i64 a0_5, .string a0_6, .bool a0_7, .int .i64 a0_8, .int .i64 a0_9, .int .i64 a0_10, .string a0_11, .string a0_12, .int .i64 a0_13, .int .i64 a0_14, .int .i64 a0_15, .bool a0_16]] w fun e w' => e = .returned (.bool a0_16) ∧ Below w.heap.size w w' := by
 go_enter Tryz.func147, Tryz.ntmps147
 go_wp2
 go_ret
 exact ⟨rfl, s_alloc (Below.refl _ _) _⟩

set_option maxHeartbeats 1000000 in
theorem bit1_tag_4 (a0_0 : Int) (a0_1 : Int) (a0_2 : Int) (a0_3 : Int) (a0_4 : Int) (a0_5 : Int) (a0_6 : ByteArray) (a0_7 : Bool) (a0_8 : Int) (a0_9 : Int) (a0_10 : Int) (a0_11 : ByteArray) (a0_12 : ByteArray) (a0_13 : Int) (a0_14 : Int) (a0_15 : Int) (a0_16 : Bool) (b : Bool) (g : Nat) (w : World) (hK : ∀ w, Calls Tryz.prog 145 #[.agg #[.int .i64 a0_0, .int .i64 a0_1, .int .i64 a0_2, .int .i64 a0_3, .int .i64 a0_4, .int .i64 a0_5, .string a0_6, .bool a0_7, .int .i64 a0_8, .int .i64 a0_9, .int .i64 a0_10, .string a0_11, .string a0_12, .int .i64 a0_13, .int .i64 a0_14, .int .i64 a0_15, .bool a0_16]] w fun e w' => e = .returned (.bool b) ∧ Below w.heap.size w w') (hg : w.heap[g]? = some (.cells #[.func (.func 145) #[] #[]] 67 (0, 0))) :
 Calls Tryz.prog 173 #[.agg #[.int .i64 a0_0, .int .i64 a0_1, .int .i64 a0_2, .int .i64 a0_3, .int .i64 a0_4, .int .i64 a0_5, .string a0_6, .bool a0_7, .int .i64 a0_8, .int .i64 a0_9, .int .i64 a0_10, .string a0_11, .string a0_12, .int .i64 a0_13, .int .i64 a0_14, .int .i64 a0_15, .bool a0_16], .pointer (some ⟨g, 0, none⟩)] w fun e w' => e = .returned (.int .i64 (if b = true then 1 else 0)) ∧ Below w.heap.size w w' := by
 have hlt := block_lt hg
 have HK := Lib.hid hK
 have HG := Lib.hid hg
 clear hK hg
 cases b
 all_goals
  go_enter Tryz.func173, Tryz.ntmps173
  go_upto_region 1 with (fail)
  generalize hW : w.alloc (Obj.cells #[Value.int IntKind.i64 a0_0, Value.int IntKind.i64 a0_1, Value.int IntKind.i64 a0_2, Value.int IntKind.i64 a0_3, Value.int IntKind.i64 a0_4, Value.int IntKind.i64 a0_5, Value.string a0_6, Value.bool a0_7, Value.int IntKind.i64 a0_8, Value.int IntKind.i64 a0_9, Value.int IntKind.i64 a0_10, Value.string a0_11, Value.string a0_12, Value.int IntKind.i64 a0_13, Value.int IntKind.i64 a0_14, Value.int IntKind.i64 a0_15, Value.bool a0_16] 45) = W1
  have hr : W1.heap[w.heap.size]? = some (.cells #[.int .i64 a0_0, .int .i64 a0_1, .int .i64 a0_2, .int .i64 a0_3, .int .i64 a0_4, .int .i64 a0_5, .string a0_6, .bool a0_7, .int .i64 a0_8, .int .i64 a0_9, .int .i64 a0_10, .string a0_11, .string a0_12, .int .i64 a0_13, .int .i64 a0_14, .int .i64 a0_15, .bool a0_16] 45 (0, 0)) := by
   rw [← hW]
   exact Array.getElem?_push_size
  have HROW := Lib.hid hr
  have hc0 : W1.cell? ⟨g, 0, none⟩ = some (.func (.func 145) #[] #[]) := by
   rw [← hW]
   exact cells1 (block_alloc HG.out _)
  have HB1 : Hid (Below w.heap.size w W1) := Lib.hid (by rw [← hW]; exact s_alloc (Below.refl _ _) _)
  have HLE := Lib.hid HB1.out.size
  clear hW hr
  go_wp2_with (first | (refine wpList_load_row rfl 45 _ rfl _ rfl 45 _ (0, 0) _ HROW.out Tryz.underlying45 rfl (by kernel_rfl) ?_) | go_at_call 145; refine (HK.out _).mono ?_; rintro e w1 ⟨rfl, hb⟩; have HB := Lib.hid hb; clear hb)
  go_ret
  exact ⟨rfl, HB1.out.trans (HB.out.mono HLE.out)⟩

set_option maxHeartbeats 1000000 in
theorem bit1_late (a0_0 : Int) (a0_1 : Int) (a0_2 : Int) (a0_3 : Int) (a0_4 : Int) (a0_5 : Int) (a0_6 : ByteArray) (a0_7 : Bool) (a0_8 : Int) (a0_9 : Int) (a0_10 : Int) (a0_11 : ByteArray) (a0_12 : ByteArray) (a0_13 : Int) (a0_14 : Int) (a0_15 : Int) (a0_16 : Bool) (b : Bool) (g : Nat) (w : World) (hK : ∀ w, Calls Tryz.prog 146 #[.agg #[.int .i64 a0_0, .int .i64 a0_1, .int .i64 a0_2, .int .i64 a0_3, .int .i64 a0_4, .int .i64 a0_5, .string a0_6, .bool a0_7, .int .i64 a0_8, .int .i64 a0_9, .int .i64 a0_10, .string a0_11, .string a0_12, .int .i64 a0_13, .int .i64 a0_14, .int .i64 a0_15, .bool a0_16]] w fun e w' => e = .returned (.bool b) ∧ Below w.heap.size w w') (hg : w.heap[g]? = some (.cells #[.func (.func 146) #[] #[]] 67 (0, 0))) :
 Calls Tryz.prog 173 #[.agg #[.int .i64 a0_0, .int .i64 a0_1, .int .i64 a0_2, .int .i64 a0_3, .int .i64 a0_4, .int .i64 a0_5, .string a0_6, .bool a0_7, .int .i64 a0_8, .int .i64 a0_9, .int .i64 a0_10, .string a0_11, .string a0_12, .int .i64 a0_13, .int .i64 a0_14, .int .i64 a0_15, .bool a0_16], .pointer (some ⟨g, 0, none⟩)] w fun e w' => e = .returned (.int .i64 (if b = true then 1 else 0)) ∧ Below w.heap.size w w' := by
 have hlt := block_lt hg
 have HK := Lib.hid hK
 have HG := Lib.hid hg
 clear hK hg
 cases b
 all_goals
  go_enter Tryz.func173, Tryz.ntmps173
  go_upto_region 1 with (fail)
  generalize hW : w.alloc (Obj.cells #[Value.int IntKind.i64 a0_0, Value.int IntKind.i64 a0_1, Value.int IntKind.i64 a0_2, Value.int IntKind.i64 a0_3, Value.int IntKind.i64 a0_4, Value.int IntKind.i64 a0_5, Value.string a0_6, Value.bool a0_7, Value.int IntKind.i64 a0_8, Value.int IntKind.i64 a0_9, Value.int IntKind.i64 a0_10, Value.string a0_11, Value.string a0_12, Value.int IntKind.i64 a0_13, Value.int IntKind.i64 a0_14, Value.int IntKind.i64 a0_15, Value.bool a0_16] 45) = W1
  have hr : W1.heap[w.heap.size]? = some (.cells #[.int .i64 a0_0, .int .i64 a0_1, .int .i64 a0_2, .int .i64 a0_3, .int .i64 a0_4, .int .i64 a0_5, .string a0_6, .bool a0_7, .int .i64 a0_8, .int .i64 a0_9, .int .i64 a0_10, .string a0_11, .string a0_12, .int .i64 a0_13, .int .i64 a0_14, .int .i64 a0_15, .bool a0_16] 45 (0, 0)) := by
   rw [← hW]
   exact Array.getElem?_push_size
  have HROW := Lib.hid hr
  have hc0 : W1.cell? ⟨g, 0, none⟩ = some (.func (.func 146) #[] #[]) := by
   rw [← hW]
   exact cells1 (block_alloc HG.out _)
  have HB1 : Hid (Below w.heap.size w W1) := Lib.hid (by rw [← hW]; exact s_alloc (Below.refl _ _) _)
  have HLE := Lib.hid HB1.out.size
  clear hW hr
  go_wp2_with (first | (refine wpList_load_row rfl 45 _ rfl _ rfl 45 _ (0, 0) _ HROW.out Tryz.underlying45 rfl (by kernel_rfl) ?_) | go_at_call 146; refine (HK.out _).mono ?_; rintro e w1 ⟨rfl, hb⟩; have HB := Lib.hid hb; clear hb)
  go_ret
  exact ⟨rfl, HB1.out.trans (HB.out.mono HLE.out)⟩

set_option maxHeartbeats 1000000 in
theorem bit1_tag_5 (a0_0 : Int) (a0_1 : Int) (a0_2 : Int) (a0_3 : Int) (a0_4 : Int) (a0_5 : Int) (a0_6 : ByteArray) (a0_7 : Bool) (a0_8 : Int) (a0_9 : Int) (a0_10 : Int) (a0_11 : ByteArray) (a0_12 : ByteArray) (a0_13 : Int) (a0_14 : Int) (a0_15 : Int) (a0_16 : Bool) (b : Bool) (g : Nat) (w : World) (hK : ∀ w, Calls Tryz.prog 147 #[.agg #[.int .i64 a0_0, .int .i64 a0_1, .int .i64 a0_2, .int .i64 a0_3, .int .i64 a0_4, .int .i64 a0_5, .string a0_6, .bool a0_7, .int .i64 a0_8, .int .i64 a0_9, .int .i64 a0_10, .string a0_11, .string a0_12, .int .i64 a0_13, .int .i64 a0_14, .int .i64 a0_15, .bool a0_16]] w fun e w' => e = .returned (.bool b) ∧ Below w.heap.size w w') (hg : w.heap[g]? = some (.cells #[.func (.func 147) #[] #[]] 67 (0, 0))) :
 Calls Tryz.prog 173 #[.agg #[.int .i64 a0_0, .int .i64 a0_1, .int .i64 a0_2, .int .i64 a0_3, .int .i64 a0_4, .int .i64 a0_5, .string a0_6, .bool a0_7, .int .i64 a0_8, .int .i64 a0_9, .int .i64 a0_10, .string a0_11, .string a0_12, .int .i64 a0_13, .int .i64 a0_14, .int .i64 a0_15, .bool a0_16], .pointer (some ⟨g, 0, none⟩)] w fun e w' => e = .returned (.int .i64 (if b = true then 1 else 0)) ∧ Below w.heap.size w w' := by
 have hlt := block_lt hg
 have HK := Lib.hid hK
 have HG := Lib.hid hg
 clear hK hg
 cases b
 all_goals
  go_enter Tryz.func173, Tryz.ntmps173
  go_upto_region 1 with (fail)
  generalize hW : w.alloc (Obj.cells #[Value.int IntKind.i64 a0_0, Value.int IntKind.i64 a0_1, Value.int IntKind.i64 a0_2, Value.int IntKind.i64 a0_3, Value.int IntKind.i64 a0_4, Value.int IntKind.i64 a0_5, Value.string a0_6, Value.bool a0_7, Value.int IntKind.i64 a0_8, Value.int IntKind.i64 a0_9, Value.int IntKind.i64 a0_10, Value.string a0_11, Value.string a0_12, Value.int IntKind.i64 a0_13, Value.int IntKind.i64 a0_14, Value.int IntKind.i64 a0_15, Value.bool a0_16] 45) = W1
  have hr : W1.heap[w.heap.size]? = some (.cells #[.int .i64 a0_0, .int .i64 a0_1, .int .i64 a0_2, .int .i64 a0_3, .int .i64 a0_4, .int .i64 a0_5, .string a0_6, .bool a0_7, .int .i64 a0_8, .int .i64 a0_9, .int .i64 a0_10, .string a0_11, .string a0_12, .int .i64 a0_13, .int .i64 a0_14, .int .i64 a0_15, .bool a0_16] 45 (0, 0)) := by
   rw [← hW]
   exact Array.getElem?_push_size
  have HROW := Lib.hid hr
  have hc0 : W1.cell? ⟨g, 0, none⟩ = some (.func (.func 147) #[] #[]) := by
   rw [← hW]
   exact cells1 (block_alloc HG.out _)
  have HB1 : Hid (Below w.heap.size w W1) := Lib.hid (by rw [← hW]; exact s_alloc (Below.refl _ _) _)
  have HLE := Lib.hid HB1.out.size
  clear hW hr
  go_wp2_with (first | (refine wpList_load_row rfl 45 _ rfl _ rfl 45 _ (0, 0) _ HROW.out Tryz.underlying45 rfl (by kernel_rfl) ?_) | go_at_call 147; refine (HK.out _).mono ?_; rintro e w1 ⟨rfl, hb⟩; have HB := Lib.hid hb; clear hb)
  go_ret
  exact ⟨rfl, HB1.out.trans (HB.out.mono HLE.out)⟩

end Go.Proofs.YtnaglnifpejpjaaGreatDoor.EN
