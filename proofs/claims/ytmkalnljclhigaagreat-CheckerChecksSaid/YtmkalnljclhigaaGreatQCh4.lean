/-
  syntax.right: each way walked.
-/
import Derived.Test.YtmkalnljclhigaaGreatQCh3
namespace Go.Proofs.YtmkalnljclhigaaGreat.Ch
set_option linter.unusedVariables false
set_option linter.unusedSimpArgs false
set_option linter.unnecessarySimpa false
open Go.RowKit Go.Proofs.YtmkalnljclhigaaGreatK Go.Proofs.YtmkalnljclhigaaGreat.XCheckerChecks Go.Proofs.YtmkalnljclhigaaGreatW.PrintWords Go.Proofs.YtmkalnljclhigaaGreatW.PrintLast

set_option maxRecDepth 100000 in
set_option maxHeartbeats 2000000 in
theorem right_no (x : S33) (A4 : Option Addr) (c4 : Nat) (A5 : Option Addr) (c5 : Nat) (w : World) (hin : EIn w x A4 c4 A5 c5) (m : Int) (ok : Bool) (hk : kidsB x.f0 = (m, ok)) (hok : ok = false) :
    Calls Tryz.prog 77 #[eV x A4 c4 A5 c5] w fun e w' => e = .returned (.bool false) ∧ Below w.heap.size w w' := by
  obtain ⟨k, n, f, fs, ks⟩ := x
  obtain ⟨l3, g3, l4, g4⟩ := hin
  dsimp only at *
  have hkids := fun w => kids_any k w
  rw [hk] at hkids
  clear hk
  have HK := Lib.hid hkids
  have HG3 := Lib.hid g3
  have HG4 := Lib.hid g4
  have hb0 : Below w.heap.size w (w.alloc (.cells #[.int .i64 k, .int .i64 n, .string f, .slice A4 fs.length c4, .slice A5 ks.length c5] 33)) := s_alloc (Below.refl _ _) _
  have hx0 : (w.alloc (.cells #[.int .i64 k, .int .i64 n, .string f, .slice A4 fs.length c4, .slice A5 ks.length c5] 33)).heap[w.heap.size]? = some (.cells #[.int .i64 k, .int .i64 n, .string f, .slice A4 fs.length c4, .slice A5 ks.length c5] 33 (0, 0)) := Array.getElem?_push_size
  have HB0 := Lib.hid hb0
  have HX0 := Lib.hid hx0
  subst hok
  clear hkids hb0 hx0 g3 g4
  go_enter Tryz.func77, Tryz.ntmps77
  go_wp2_with (first
    | (go_at_call 90; refine (HK.out _).mono ?_; rintro e w1 ⟨rfl, hb⟩; have HB1 := Lib.hid (s_trans HB0.out hb); have HX1 := Lib.hid (block_on hb HX0.out); obtain ⟨x0, x1, x2, x3, x4⟩ := cells5 HX1.out; clear hb))
  go_ret
  exact ⟨rfl, by first | exact HB3.out | exact HB2.out | exact HB1.out⟩

set_option maxRecDepth 100000 in
set_option maxHeartbeats 2000000 in
theorem right_len (x : S33) (A4 : Option Addr) (c4 : Nat) (A5 : Option Addr) (c5 : Nat) (w : World) (hin : EIn w x A4 c4 A5 c5) (m : Int) (ok : Bool) (hk : kidsB x.f0 = (m, ok)) (hok : ok = true) (hlen : (x.f4.length : Int) ≠ m) :
    Calls Tryz.prog 77 #[eV x A4 c4 A5 c5] w fun e w' => e = .returned (.bool false) ∧ Below w.heap.size w w' := by
  obtain ⟨k, n, f, fs, ks⟩ := x
  obtain ⟨l3, g3, l4, g4⟩ := hin
  dsimp only at *
  have hkids := fun w => kids_any k w
  rw [hk] at hkids
  clear hk
  have HK := Lib.hid hkids
  have HG3 := Lib.hid g3
  have HG4 := Lib.hid g4
  have hb0 : Below w.heap.size w (w.alloc (.cells #[.int .i64 k, .int .i64 n, .string f, .slice A4 fs.length c4, .slice A5 ks.length c5] 33)) := s_alloc (Below.refl _ _) _
  have hx0 : (w.alloc (.cells #[.int .i64 k, .int .i64 n, .string f, .slice A4 fs.length c4, .slice A5 ks.length c5] 33)).heap[w.heap.size]? = some (.cells #[.int .i64 k, .int .i64 n, .string f, .slice A4 fs.length c4, .slice A5 ks.length c5] 33 (0, 0)) := Array.getElem?_push_size
  have HB0 := Lib.hid hb0
  have HX0 := Lib.hid hx0
  subst hok
  have q1 : ((ks.length : Int) != m) = true := by simpa using hlen
  clear hlen
  clear hkids hb0 hx0 g3 g4
  go_enter Tryz.func77, Tryz.ntmps77
  go_wp2_with (first
    | (go_at_call 90; refine (HK.out _).mono ?_; rintro e w1 ⟨rfl, hb⟩; have HB1 := Lib.hid (s_trans HB0.out hb); have HX1 := Lib.hid (block_on hb HX0.out); obtain ⟨x0, x1, x2, x3, x4⟩ := cells5 HX1.out; clear hb))
  go_ret
  exact ⟨rfl, by first | exact HB3.out | exact HB2.out | exact HB1.out⟩

set_option maxRecDepth 100000 in
set_option maxHeartbeats 2000000 in
theorem right_field (x : S33) (A4 : Option Addr) (c4 : Nat) (A5 : Option Addr) (c5 : Nat) (w : World) (hin : EIn w x A4 c4 A5 c5) (m : Int) (ok : Bool) (hk : kidsB x.f0 = (m, ok)) (hok : ok = true) (hlen : (x.f4.length : Int) = m) (h0 : x.f0 ≠ 3) (hf : x.f2.size ≠ 0) :
    Calls Tryz.prog 77 #[eV x A4 c4 A5 c5] w fun e w' => e = .returned (.bool false) ∧ Below w.heap.size w w' := by
  obtain ⟨k, n, f, fs, ks⟩ := x
  obtain ⟨l3, g3, l4, g4⟩ := hin
  dsimp only at *
  have hkids := fun w => kids_any k w
  rw [hk] at hkids
  clear hk
  have HK := Lib.hid hkids
  have HG3 := Lib.hid g3
  have HG4 := Lib.hid g4
  have hb0 : Below w.heap.size w (w.alloc (.cells #[.int .i64 k, .int .i64 n, .string f, .slice A4 fs.length c4, .slice A5 ks.length c5] 33)) := s_alloc (Below.refl _ _) _
  have hx0 : (w.alloc (.cells #[.int .i64 k, .int .i64 n, .string f, .slice A4 fs.length c4, .slice A5 ks.length c5] 33)).heap[w.heap.size]? = some (.cells #[.int .i64 k, .int .i64 n, .string f, .slice A4 fs.length c4, .slice A5 ks.length c5] 33 (0, 0)) := Array.getElem?_push_size
  have HB0 := Lib.hid hb0
  have HX0 := Lib.hid hx0
  subst hok
  have q1 : ((ks.length : Int) != m) = false := by rw [hlen]; simp
  have HLEN := Lib.hid hlen
  clear hlen
  have b3 : (k == 3) = false := beq_eq_false_iff_ne.2 h0
  have n3 : (k != 3) = true := by unfold bne; rw [b3]; rfl
  clear h0
  have e1 : ¬ f.toList = [] := fun e => hf ((empty_iff f).1 e)
  have e2 : f.toList.isEmpty = false := by cases hq : f.toList with | nil => exact absurd hq e1 | cons a l => rfl
  have e3 : (f.toList != []) = true := by simpa using e1
  clear e1 hf
  clear hkids hb0 hx0 g3 g4
  go_enter Tryz.func77, Tryz.ntmps77
  go_wp2_with (first
    | (go_at_call 90; refine (HK.out _).mono ?_; rintro e w1 ⟨rfl, hb⟩; have HB1 := Lib.hid (s_trans HB0.out hb); have HX1 := Lib.hid (block_on hb HX0.out); obtain ⟨x0, x1, x2, x3, x4⟩ := cells5 HX1.out; clear hb))
  go_ret
  exact ⟨rfl, by first | exact HB3.out | exact HB2.out | exact HB1.out⟩

set_option maxRecDepth 100000 in
set_option maxHeartbeats 2000000 in
theorem right_filt (x : S33) (A4 : Option Addr) (c4 : Nat) (A5 : Option Addr) (c5 : Nat) (w : World) (hin : EIn w x A4 c4 A5 c5) (m : Int) (ok : Bool) (hk : kidsB x.f0 = (m, ok)) (hok : ok = true) (hlen : (x.f4.length : Int) = m) (h0 : x.f0 ≠ 3) (hf : x.f2.size = 0) (hfs : 0 < x.f3.length) :
    Calls Tryz.prog 77 #[eV x A4 c4 A5 c5] w fun e w' => e = .returned (.bool false) ∧ Below w.heap.size w w' := by
  obtain ⟨k, n, f, fs, ks⟩ := x
  obtain ⟨l3, g3, l4, g4⟩ := hin
  dsimp only at *
  have hkids := fun w => kids_any k w
  rw [hk] at hkids
  clear hk
  have HK := Lib.hid hkids
  have HG3 := Lib.hid g3
  have HG4 := Lib.hid g4
  have hb0 : Below w.heap.size w (w.alloc (.cells #[.int .i64 k, .int .i64 n, .string f, .slice A4 fs.length c4, .slice A5 ks.length c5] 33)) := s_alloc (Below.refl _ _) _
  have hx0 : (w.alloc (.cells #[.int .i64 k, .int .i64 n, .string f, .slice A4 fs.length c4, .slice A5 ks.length c5] 33)).heap[w.heap.size]? = some (.cells #[.int .i64 k, .int .i64 n, .string f, .slice A4 fs.length c4, .slice A5 ks.length c5] 33 (0, 0)) := Array.getElem?_push_size
  have HB0 := Lib.hid hb0
  have HX0 := Lib.hid hx0
  subst hok
  have q1 : ((ks.length : Int) != m) = false := by rw [hlen]; simp
  have HLEN := Lib.hid hlen
  clear hlen
  have b3 : (k == 3) = false := beq_eq_false_iff_ne.2 h0
  have n3 : (k != 3) = true := by unfold bne; rw [b3]; rfl
  clear h0
  have e1 : f.toList = [] := (empty_iff f).2 hf
  have e2 : f.toList.isEmpty = true := by rw [e1]; rfl
  have e3 : (f.toList != []) = false := by rw [e1]; rfl
  have E1 := Lib.hid e1
  clear e1 hf
  have z1 : decide (0 < fs.length) = true := decide_eq_true (by omega)
  clear hkids hb0 hx0 g3 g4
  go_enter Tryz.func77, Tryz.ntmps77
  go_wp2_with (first
    | (go_at_call 90; refine (HK.out _).mono ?_; rintro e w1 ⟨rfl, hb⟩; have HB1 := Lib.hid (s_trans HB0.out hb); have HX1 := Lib.hid (block_on hb HX0.out); obtain ⟨x0, x1, x2, x3, x4⟩ := cells5 HX1.out; clear hb))
  go_ret
  exact ⟨rfl, by first | exact HB3.out | exact HB2.out | exact HB1.out⟩

set_option maxRecDepth 100000 in
set_option maxHeartbeats 2000000 in
theorem right_k1 (x : S33) (A4 : Option Addr) (c4 : Nat) (A5 : Option Addr) (c5 : Nat) (w : World) (hin : EIn w x A4 c4 A5 c5) (m : Int) (ok : Bool) (hk : kidsB x.f0 = (m, ok)) (hok : ok = true) (hlen : (x.f4.length : Int) = m) (h0 : x.f0 = 1) (hf : x.f2.size = 0) (hfs : x.f3.length = 0) :
    Calls Tryz.prog 77 #[eV x A4 c4 A5 c5] w fun e w' => e = .returned (.bool (numB x.f1)) ∧ Below w.heap.size w w' := by
  obtain ⟨k, n, f, fs, ks⟩ := x
  obtain ⟨l3, g3, l4, g4⟩ := hin
  dsimp only at *
  have hkids := fun w => kids_any k w
  rw [hk] at hkids
  clear hk
  have HK := Lib.hid hkids
  have HG3 := Lib.hid g3
  have HG4 := Lib.hid g4
  have hb0 : Below w.heap.size w (w.alloc (.cells #[.int .i64 k, .int .i64 n, .string f, .slice A4 fs.length c4, .slice A5 ks.length c5] 33)) := s_alloc (Below.refl _ _) _
  have hx0 : (w.alloc (.cells #[.int .i64 k, .int .i64 n, .string f, .slice A4 fs.length c4, .slice A5 ks.length c5] 33)).heap[w.heap.size]? = some (.cells #[.int .i64 k, .int .i64 n, .string f, .slice A4 fs.length c4, .slice A5 ks.length c5] 33 (0, 0)) := Array.getElem?_push_size
  have HB0 := Lib.hid hb0
  have HX0 := Lib.hid hx0
  subst hok
  have q1 : ((ks.length : Int) != m) = false := by rw [hlen]; simp
  have HLEN := Lib.hid hlen
  clear hlen
  have e1 : f.toList = [] := (empty_iff f).2 hf
  have e2 : f.toList.isEmpty = true := by rw [e1]; rfl
  have e3 : (f.toList != []) = false := by rw [e1]; rfl
  have E1 := Lib.hid e1
  clear e1 hf
  have z1 : decide (0 < fs.length) = false := decide_eq_false (by omega)
  clear hfs
  have b1 : (k == 1) = true := by rw [h0]; rfl
  have b2 : (k == 2) = false := by rw [h0]; rfl
  have b3 : (k == 3) = false := by rw [h0]; rfl
  have n3 : (k != 3) = true := by unfold bne; rw [b3]; rfl
  clear h0
  have hnum := fun w => number_any n w
  generalize numB n = NB at *
  have HNUM := Lib.hid hnum
  clear hnum
  clear hkids hb0 hx0 g3 g4
  go_enter Tryz.func77, Tryz.ntmps77
  go_wp2_with (first
    | (go_at_call 90; refine (HK.out _).mono ?_; rintro e w1 ⟨rfl, hb⟩; have HB1 := Lib.hid (s_trans HB0.out hb); have HX1 := Lib.hid (block_on hb HX0.out); obtain ⟨x0, x1, x2, x3, x4⟩ := cells5 HX1.out; clear hb)
    | (go_at_call 91; refine (HNUM.out _).mono ?_; rintro e w2 ⟨rfl, hb⟩; have HB2 := Lib.hid (s_trans HB1.out hb); clear hb))
  go_ret
  exact ⟨rfl, by first | exact HB3.out | exact HB2.out | exact HB1.out⟩

set_option maxRecDepth 100000 in
set_option maxHeartbeats 2000000 in
theorem right_k2 (x : S33) (A4 : Option Addr) (c4 : Nat) (A5 : Option Addr) (c5 : Nat) (w : World) (hin : EIn w x A4 c4 A5 c5) (m : Int) (ok : Bool) (hk : kidsB x.f0 = (m, ok)) (hok : ok = true) (hlen : (x.f4.length : Int) = m) (h0 : x.f0 = 2) (hf : x.f2.size = 0) (hfs : x.f3.length = 0) :
    Calls Tryz.prog 77 #[eV x A4 c4 A5 c5] w fun e w' => e = .returned (.bool (boxedB x.f1)) ∧ Below w.heap.size w w' := by
  obtain ⟨k, n, f, fs, ks⟩ := x
  obtain ⟨l3, g3, l4, g4⟩ := hin
  dsimp only at *
  have hkids := fun w => kids_any k w
  rw [hk] at hkids
  clear hk
  have HK := Lib.hid hkids
  have HG3 := Lib.hid g3
  have HG4 := Lib.hid g4
  have hb0 : Below w.heap.size w (w.alloc (.cells #[.int .i64 k, .int .i64 n, .string f, .slice A4 fs.length c4, .slice A5 ks.length c5] 33)) := s_alloc (Below.refl _ _) _
  have hx0 : (w.alloc (.cells #[.int .i64 k, .int .i64 n, .string f, .slice A4 fs.length c4, .slice A5 ks.length c5] 33)).heap[w.heap.size]? = some (.cells #[.int .i64 k, .int .i64 n, .string f, .slice A4 fs.length c4, .slice A5 ks.length c5] 33 (0, 0)) := Array.getElem?_push_size
  have HB0 := Lib.hid hb0
  have HX0 := Lib.hid hx0
  subst hok
  have q1 : ((ks.length : Int) != m) = false := by rw [hlen]; simp
  have HLEN := Lib.hid hlen
  clear hlen
  have e1 : f.toList = [] := (empty_iff f).2 hf
  have e2 : f.toList.isEmpty = true := by rw [e1]; rfl
  have e3 : (f.toList != []) = false := by rw [e1]; rfl
  have E1 := Lib.hid e1
  clear e1 hf
  have z1 : decide (0 < fs.length) = false := decide_eq_false (by omega)
  clear hfs
  have b1 : (k == 1) = false := by rw [h0]; rfl
  have b2 : (k == 2) = true := by rw [h0]; rfl
  have b3 : (k == 3) = false := by rw [h0]; rfl
  have n3 : (k != 3) = true := by unfold bne; rw [b3]; rfl
  clear h0
  have hnum := fun w => boxed_any n w
  generalize boxedB n = NB at *
  have HNUM := Lib.hid hnum
  clear hnum
  clear hkids hb0 hx0 g3 g4
  go_enter Tryz.func77, Tryz.ntmps77
  go_wp2_with (first
    | (go_at_call 90; refine (HK.out _).mono ?_; rintro e w1 ⟨rfl, hb⟩; have HB1 := Lib.hid (s_trans HB0.out hb); have HX1 := Lib.hid (block_on hb HX0.out); obtain ⟨x0, x1, x2, x3, x4⟩ := cells5 HX1.out; clear hb)
    | (go_at_call 66; refine (HNUM.out _).mono ?_; rintro e w2 ⟨rfl, hb⟩; have HB2 := Lib.hid (s_trans HB1.out hb); clear hb))
  go_ret
  exact ⟨rfl, by first | exact HB3.out | exact HB2.out | exact HB1.out⟩

set_option maxRecDepth 100000 in
set_option maxHeartbeats 2000000 in
theorem right_k3n (x : S33) (A4 : Option Addr) (c4 : Nat) (A5 : Option Addr) (c5 : Nat) (w : World) (hin : EIn w x A4 c4 A5 c5) (m : Int) (ok : Bool) (hk : kidsB x.f0 = (m, ok)) (hok : ok = true) (hlen : (x.f4.length : Int) = m) (h0 : x.f0 = 3) (hn : x.f1 ≠ 0) :
    Calls Tryz.prog 77 #[eV x A4 c4 A5 c5] w fun e w' => e = .returned (.bool false) ∧ Below w.heap.size w w' := by
  obtain ⟨k, n, f, fs, ks⟩ := x
  obtain ⟨l3, g3, l4, g4⟩ := hin
  dsimp only at *
  have hkids := fun w => kids_any k w
  rw [hk] at hkids
  clear hk
  have HK := Lib.hid hkids
  have HG3 := Lib.hid g3
  have HG4 := Lib.hid g4
  have hb0 : Below w.heap.size w (w.alloc (.cells #[.int .i64 k, .int .i64 n, .string f, .slice A4 fs.length c4, .slice A5 ks.length c5] 33)) := s_alloc (Below.refl _ _) _
  have hx0 : (w.alloc (.cells #[.int .i64 k, .int .i64 n, .string f, .slice A4 fs.length c4, .slice A5 ks.length c5] 33)).heap[w.heap.size]? = some (.cells #[.int .i64 k, .int .i64 n, .string f, .slice A4 fs.length c4, .slice A5 ks.length c5] 33 (0, 0)) := Array.getElem?_push_size
  have HB0 := Lib.hid hb0
  have HX0 := Lib.hid hx0
  subst hok
  have q1 : ((ks.length : Int) != m) = false := by rw [hlen]; simp
  have HLEN := Lib.hid hlen
  clear hlen
  have b1 : (k == 1) = false := by rw [h0]; rfl
  have b2 : (k == 2) = false := by rw [h0]; rfl
  have b3 : (k == 3) = true := by rw [h0]; rfl
  have n3 : (k != 3) = false := by unfold bne; rw [b3]; rfl
  clear h0
  have y0 : (n == 0) = false := beq_eq_false_iff_ne.2 hn
  clear hn
  clear hkids hb0 hx0 g3 g4
  go_enter Tryz.func77, Tryz.ntmps77
  go_wp2_with (first
    | (go_at_call 90; refine (HK.out _).mono ?_; rintro e w1 ⟨rfl, hb⟩; have HB1 := Lib.hid (s_trans HB0.out hb); have HX1 := Lib.hid (block_on hb HX0.out); obtain ⟨x0, x1, x2, x3, x4⟩ := cells5 HX1.out; clear hb))
  go_ret
  exact ⟨rfl, by first | exact HB3.out | exact HB2.out | exact HB1.out⟩

set_option maxRecDepth 100000 in
set_option maxHeartbeats 2000000 in
theorem right_k3name (x : S33) (A4 : Option Addr) (c4 : Nat) (A5 : Option Addr) (c5 : Nat) (w : World) (hin : EIn w x A4 c4 A5 c5) (m : Int) (ok : Bool) (hk : kidsB x.f0 = (m, ok)) (hok : ok = true) (hlen : (x.f4.length : Int) = m) (h0 : x.f0 = 3) (hn : x.f1 = 0) (hnb : nameB x.f2 = false) :
    Calls Tryz.prog 77 #[eV x A4 c4 A5 c5] w fun e w' => e = .returned (.bool false) ∧ Below w.heap.size w w' := by
  obtain ⟨k, n, f, fs, ks⟩ := x
  obtain ⟨l3, g3, l4, g4⟩ := hin
  dsimp only at *
  have hkids := fun w => kids_any k w
  rw [hk] at hkids
  clear hk
  have HK := Lib.hid hkids
  have HG3 := Lib.hid g3
  have HG4 := Lib.hid g4
  have hb0 : Below w.heap.size w (w.alloc (.cells #[.int .i64 k, .int .i64 n, .string f, .slice A4 fs.length c4, .slice A5 ks.length c5] 33)) := s_alloc (Below.refl _ _) _
  have hx0 : (w.alloc (.cells #[.int .i64 k, .int .i64 n, .string f, .slice A4 fs.length c4, .slice A5 ks.length c5] 33)).heap[w.heap.size]? = some (.cells #[.int .i64 k, .int .i64 n, .string f, .slice A4 fs.length c4, .slice A5 ks.length c5] 33 (0, 0)) := Array.getElem?_push_size
  have HB0 := Lib.hid hb0
  have HX0 := Lib.hid hx0
  subst hok
  have q1 : ((ks.length : Int) != m) = false := by rw [hlen]; simp
  have HLEN := Lib.hid hlen
  clear hlen
  have b1 : (k == 1) = false := by rw [h0]; rfl
  have b2 : (k == 2) = false := by rw [h0]; rfl
  have b3 : (k == 3) = true := by rw [h0]; rfl
  have n3 : (k != 3) = false := by unfold bne; rw [b3]; rfl
  clear h0
  have y0 : (n == 0) = true := by rw [hn]; rfl
  clear hn
  have hnm := fun w => name_any f w
  rw [hnb] at hnm
  have HN := Lib.hid hnm
  clear hnm hnb
  clear hkids hb0 hx0 g3 g4
  go_enter Tryz.func77, Tryz.ntmps77
  go_wp2_with (first
    | (go_at_call 90; refine (HK.out _).mono ?_; rintro e w1 ⟨rfl, hb⟩; have HB1 := Lib.hid (s_trans HB0.out hb); have HX1 := Lib.hid (block_on hb HX0.out); obtain ⟨x0, x1, x2, x3, x4⟩ := cells5 HX1.out; clear hb)
    | (go_at_call 94; refine (HN.out _).mono ?_; rintro e w2 ⟨rfl, hb⟩; have HB2 := Lib.hid (s_trans HB1.out hb); have HX2 := Lib.hid (block_on hb HX1.out); obtain ⟨x0, x1, x2, x3, x4⟩ := cells5 HX2.out; clear hb))
  go_ret
  exact ⟨rfl, by first | exact HB3.out | exact HB2.out | exact HB1.out⟩

set_option maxRecDepth 100000 in
set_option maxHeartbeats 2000000 in
theorem right_k3many (x : S33) (A4 : Option Addr) (c4 : Nat) (A5 : Option Addr) (c5 : Nat) (w : World) (hin : EIn w x A4 c4 A5 c5) (m : Int) (ok : Bool) (hk : kidsB x.f0 = (m, ok)) (hok : ok = true) (hlen : (x.f4.length : Int) = m) (h0 : x.f0 = 3) (hn : x.f1 = 0) (hnb : nameB x.f2 = true) (hfs : 16 < x.f3.length) :
    Calls Tryz.prog 77 #[eV x A4 c4 A5 c5] w fun e w' => e = .returned (.bool false) ∧ Below w.heap.size w w' := by
  obtain ⟨k, n, f, fs, ks⟩ := x
  obtain ⟨l3, g3, l4, g4⟩ := hin
  dsimp only at *
  have hkids := fun w => kids_any k w
  rw [hk] at hkids
  clear hk
  have HK := Lib.hid hkids
  have HG3 := Lib.hid g3
  have HG4 := Lib.hid g4
  have hb0 : Below w.heap.size w (w.alloc (.cells #[.int .i64 k, .int .i64 n, .string f, .slice A4 fs.length c4, .slice A5 ks.length c5] 33)) := s_alloc (Below.refl _ _) _
  have hx0 : (w.alloc (.cells #[.int .i64 k, .int .i64 n, .string f, .slice A4 fs.length c4, .slice A5 ks.length c5] 33)).heap[w.heap.size]? = some (.cells #[.int .i64 k, .int .i64 n, .string f, .slice A4 fs.length c4, .slice A5 ks.length c5] 33 (0, 0)) := Array.getElem?_push_size
  have HB0 := Lib.hid hb0
  have HX0 := Lib.hid hx0
  subst hok
  have q1 : ((ks.length : Int) != m) = false := by rw [hlen]; simp
  have HLEN := Lib.hid hlen
  clear hlen
  have b1 : (k == 1) = false := by rw [h0]; rfl
  have b2 : (k == 2) = false := by rw [h0]; rfl
  have b3 : (k == 3) = true := by rw [h0]; rfl
  have n3 : (k != 3) = false := by unfold bne; rw [b3]; rfl
  clear h0
  have y0 : (n == 0) = true := by rw [hn]; rfl
  clear hn
  have hnm := fun w => name_any f w
  rw [hnb] at hnm
  have HN := Lib.hid hnm
  clear hnm hnb
  have z2 : decide ((fs.length : Int) ≤ 16) = false := decide_eq_false (by omega)
  clear hkids hb0 hx0 g3 g4
  go_enter Tryz.func77, Tryz.ntmps77
  go_wp2_with (first
    | (go_at_call 90; refine (HK.out _).mono ?_; rintro e w1 ⟨rfl, hb⟩; have HB1 := Lib.hid (s_trans HB0.out hb); have HX1 := Lib.hid (block_on hb HX0.out); obtain ⟨x0, x1, x2, x3, x4⟩ := cells5 HX1.out; clear hb)
    | (go_at_call 94; refine (HN.out _).mono ?_; rintro e w2 ⟨rfl, hb⟩; have HB2 := Lib.hid (s_trans HB1.out hb); have HX2 := Lib.hid (block_on hb HX1.out); obtain ⟨x0, x1, x2, x3, x4⟩ := cells5 HX2.out; clear hb))
  go_ret
  exact ⟨rfl, by first | exact HB3.out | exact HB2.out | exact HB1.out⟩

set_option maxRecDepth 100000 in
set_option maxHeartbeats 2000000 in
theorem right_k3 (x : S33) (A4 : Option Addr) (c4 : Nat) (A5 : Option Addr) (c5 : Nat) (w : World) (hin : EIn w x A4 c4 A5 c5) (m : Int) (ok : Bool) (hk : kidsB x.f0 = (m, ok)) (hok : ok = true) (hlen : (x.f4.length : Int) = m) (h0 : x.f0 = 3) (hn : x.f1 = 0) (hnb : nameB x.f2 = true) (hfs : x.f3.length ≤ 16) :
    Calls Tryz.prog 77 #[eV x A4 c4 A5 c5] w fun e w' => e = .returned (.bool (!x.f3.any (fun f => !picksB f))) ∧ Below w.heap.size w w' := by
  obtain ⟨k, n, f, fs, ks⟩ := x
  obtain ⟨l3, g3, l4, g4⟩ := hin
  dsimp only at *
  have hkids := fun w => kids_any k w
  rw [hk] at hkids
  clear hk
  have HK := Lib.hid hkids
  have HG3 := Lib.hid g3
  have HG4 := Lib.hid g4
  have hb0 : Below w.heap.size w (w.alloc (.cells #[.int .i64 k, .int .i64 n, .string f, .slice A4 fs.length c4, .slice A5 ks.length c5] 33)) := s_alloc (Below.refl _ _) _
  have hx0 : (w.alloc (.cells #[.int .i64 k, .int .i64 n, .string f, .slice A4 fs.length c4, .slice A5 ks.length c5] 33)).heap[w.heap.size]? = some (.cells #[.int .i64 k, .int .i64 n, .string f, .slice A4 fs.length c4, .slice A5 ks.length c5] 33 (0, 0)) := Array.getElem?_push_size
  have HB0 := Lib.hid hb0
  have HX0 := Lib.hid hx0
  subst hok
  have q1 : ((ks.length : Int) != m) = false := by rw [hlen]; simp
  have HLEN := Lib.hid hlen
  clear hlen
  have b1 : (k == 1) = false := by rw [h0]; rfl
  have b2 : (k == 2) = false := by rw [h0]; rfl
  have b3 : (k == 3) = true := by rw [h0]; rfl
  have n3 : (k != 3) = false := by unfold bne; rw [b3]; rfl
  clear h0
  have y0 : (n == 0) = true := by rw [hn]; rfl
  clear hn
  have hnm := fun w => name_any f w
  rw [hnb] at hnm
  have HN := Lib.hid hnm
  clear hnm hnb
  have z2 : decide ((fs.length : Int) ≤ 16) = true := decide_eq_true (by omega)
  have hfl := fun W (hb : Below w.heap.size w W) => wrongF_any W A4 c4 fs (fun f => !picksB f) (Kd.C_below HG3.out hb) l3 (by omega) (fun y _ W' _ => wrong_any y W')
  have HF := Lib.hid hfl
  clear hfl
  clear hkids hb0 hx0 g3 g4
  go_enter Tryz.func77, Tryz.ntmps77
  go_wp2_with (first
    | (go_at_call 90; refine (HK.out _).mono ?_; rintro e w1 ⟨rfl, hb⟩; have HB1 := Lib.hid (s_trans HB0.out hb); have HX1 := Lib.hid (block_on hb HX0.out); obtain ⟨x0, x1, x2, x3, x4⟩ := cells5 HX1.out; clear hb)
    | (go_at_call 94; refine (HN.out _).mono ?_; rintro e w2 ⟨rfl, hb⟩; have HB2 := Lib.hid (s_trans HB1.out hb); have HX2 := Lib.hid (block_on hb HX1.out); obtain ⟨x0, x1, x2, x3, x4⟩ := cells5 HX2.out; clear hb)
    | (go_at_call 38; refine (HF.out _ HB2.out).mono ?_; rintro e w3 ⟨rfl, hb⟩; have HB3 := Lib.hid (s_trans HB2.out hb); clear hb))
  go_ret
  exact ⟨rfl, by first | exact HB3.out | exact HB2.out | exact HB1.out⟩

set_option maxRecDepth 100000 in
set_option maxHeartbeats 2000000 in
theorem right_kn (x : S33) (A4 : Option Addr) (c4 : Nat) (A5 : Option Addr) (c5 : Nat) (w : World) (hin : EIn w x A4 c4 A5 c5) (m : Int) (ok : Bool) (hk : kidsB x.f0 = (m, ok)) (hok : ok = true) (hlen : (x.f4.length : Int) = m) (h0 : x.f0 ≠ 1 ∧ x.f0 ≠ 2 ∧ x.f0 ≠ 3) (hf : x.f2.size = 0) (hfs : x.f3.length = 0) (hn : x.f1 ≠ 0) :
    Calls Tryz.prog 77 #[eV x A4 c4 A5 c5] w fun e w' => e = .returned (.bool false) ∧ Below w.heap.size w w' := by
  obtain ⟨k, n, f, fs, ks⟩ := x
  obtain ⟨l3, g3, l4, g4⟩ := hin
  dsimp only at *
  have hkids := fun w => kids_any k w
  rw [hk] at hkids
  clear hk
  have HK := Lib.hid hkids
  have HG3 := Lib.hid g3
  have HG4 := Lib.hid g4
  have hb0 : Below w.heap.size w (w.alloc (.cells #[.int .i64 k, .int .i64 n, .string f, .slice A4 fs.length c4, .slice A5 ks.length c5] 33)) := s_alloc (Below.refl _ _) _
  have hx0 : (w.alloc (.cells #[.int .i64 k, .int .i64 n, .string f, .slice A4 fs.length c4, .slice A5 ks.length c5] 33)).heap[w.heap.size]? = some (.cells #[.int .i64 k, .int .i64 n, .string f, .slice A4 fs.length c4, .slice A5 ks.length c5] 33 (0, 0)) := Array.getElem?_push_size
  have HB0 := Lib.hid hb0
  have HX0 := Lib.hid hx0
  subst hok
  have q1 : ((ks.length : Int) != m) = false := by rw [hlen]; simp
  have HLEN := Lib.hid hlen
  clear hlen
  have e1 : f.toList = [] := (empty_iff f).2 hf
  have e2 : f.toList.isEmpty = true := by rw [e1]; rfl
  have e3 : (f.toList != []) = false := by rw [e1]; rfl
  have E1 := Lib.hid e1
  clear e1 hf
  have z1 : decide (0 < fs.length) = false := decide_eq_false (by omega)
  clear hfs
  have b1 : (k == 1) = false := beq_eq_false_iff_ne.2 h0.1
  have b2 : (k == 2) = false := beq_eq_false_iff_ne.2 h0.2.1
  have b3 : (k == 3) = false := beq_eq_false_iff_ne.2 h0.2.2
  have n3 : (k != 3) = true := by unfold bne; rw [b3]; rfl
  clear h0
  have y0 : (n == 0) = false := beq_eq_false_iff_ne.2 hn
  clear hn
  clear hkids hb0 hx0 g3 g4
  go_enter Tryz.func77, Tryz.ntmps77
  go_wp2_with (first
    | (go_at_call 90; refine (HK.out _).mono ?_; rintro e w1 ⟨rfl, hb⟩; have HB1 := Lib.hid (s_trans HB0.out hb); have HX1 := Lib.hid (block_on hb HX0.out); obtain ⟨x0, x1, x2, x3, x4⟩ := cells5 HX1.out; clear hb))
  go_ret
  exact ⟨rfl, by first | exact HB3.out | exact HB2.out | exact HB1.out⟩

set_option maxRecDepth 100000 in
set_option maxHeartbeats 2000000 in
theorem right_k (x : S33) (A4 : Option Addr) (c4 : Nat) (A5 : Option Addr) (c5 : Nat) (w : World) (hin : EIn w x A4 c4 A5 c5) (m : Int) (ok : Bool) (hk : kidsB x.f0 = (m, ok)) (hok : ok = true) (hlen : (x.f4.length : Int) = m) (h0 : x.f0 ≠ 1 ∧ x.f0 ≠ 2 ∧ x.f0 ≠ 3) (hf : x.f2.size = 0) (hfs : x.f3.length = 0) (hn : x.f1 = 0) (hm : m ≤ 3) (p : S33 → Bool) (ih : ∀ y ∈ x.f4, ∀ (A4 : Option Addr) (c4 : Nat) (A5 : Option Addr) (c5 : Nat) (W : World), EIn W y A4 c4 A5 c5 → Calls Tryz.prog 95 #[eV y A4 c4 A5 c5] W fun e w' => e = .returned (.bool (p y)) ∧ Below W.heap.size W w') :
    Calls Tryz.prog 77 #[eV x A4 c4 A5 c5] w fun e w' => e = .returned (.bool (!x.f4.any p)) ∧ Below w.heap.size w w' := by
  obtain ⟨k, n, f, fs, ks⟩ := x
  obtain ⟨l3, g3, l4, g4⟩ := hin
  dsimp only at *
  have hkids := fun w => kids_any k w
  rw [hk] at hkids
  clear hk
  have HK := Lib.hid hkids
  have HG3 := Lib.hid g3
  have HG4 := Lib.hid g4
  have hb0 : Below w.heap.size w (w.alloc (.cells #[.int .i64 k, .int .i64 n, .string f, .slice A4 fs.length c4, .slice A5 ks.length c5] 33)) := s_alloc (Below.refl _ _) _
  have hx0 : (w.alloc (.cells #[.int .i64 k, .int .i64 n, .string f, .slice A4 fs.length c4, .slice A5 ks.length c5] 33)).heap[w.heap.size]? = some (.cells #[.int .i64 k, .int .i64 n, .string f, .slice A4 fs.length c4, .slice A5 ks.length c5] 33 (0, 0)) := Array.getElem?_push_size
  have HB0 := Lib.hid hb0
  have HX0 := Lib.hid hx0
  subst hok
  have hkl : ks.length < 1000000000000 := by omega
  have q1 : ((ks.length : Int) != m) = false := by rw [hlen]; simp
  have HLEN := Lib.hid hlen
  clear hlen
  have e1 : f.toList = [] := (empty_iff f).2 hf
  have e2 : f.toList.isEmpty = true := by rw [e1]; rfl
  have e3 : (f.toList != []) = false := by rw [e1]; rfl
  have E1 := Lib.hid e1
  clear e1 hf
  have z1 : decide (0 < fs.length) = false := decide_eq_false (by omega)
  clear hfs
  have b1 : (k == 1) = false := beq_eq_false_iff_ne.2 h0.1
  have b2 : (k == 2) = false := beq_eq_false_iff_ne.2 h0.2.1
  have b3 : (k == 3) = false := beq_eq_false_iff_ne.2 h0.2.2
  have n3 : (k != 3) = true := by unfold bne; rw [b3]; rfl
  clear h0
  have y0 : (n == 0) = true := by rw [hn]; rfl
  clear hn
  have hfl := fun W (hb : Below w.heap.size w W) => kid_any W A5 c5 ks p (Kd.C_below HG4.out hb) l4 hkl (fun y hy A4 c4 A5 c5 W' _ hi => ih y hy A4 c4 A5 c5 W' hi)
  have HC := Lib.hid hfl
  clear hfl ih
  clear hkids hb0 hx0 g3 g4
  go_enter Tryz.func77, Tryz.ntmps77
  go_wp2_with (first
    | (go_at_call 90; refine (HK.out _).mono ?_; rintro e w1 ⟨rfl, hb⟩; have HB1 := Lib.hid (s_trans HB0.out hb); have HX1 := Lib.hid (block_on hb HX0.out); obtain ⟨x0, x1, x2, x3, x4⟩ := cells5 HX1.out; clear hb)
    | (go_at_call 96; refine (HC.out _ HB1.out).mono ?_; rintro e w2 ⟨rfl, hb⟩; have HB2 := Lib.hid (s_trans HB1.out hb); clear hb))
  go_ret
  exact ⟨rfl, by first | exact HB3.out | exact HB2.out | exact HB1.out⟩
end Go.Proofs.YtmkalnljclhigaaGreat.Ch
