/- Several texts in one. -/
import Derived.Test.YtnaglnifpejpjaaGreatDoorRMA
import Derived.Test.YtnaglnifpejpjaaGreatDoorRXEvalRunsx0
import Derived.Deep.DeepCutAuto
import Derived.Test.YtnaglnifpejpjaaGreatDoorRXEvalRunsx2
import Derived.Test.YtnaglnifpejpjaaGreatDoorRShA
import Derived.Shelf.GgClosure.Gives
import Derived.Maps.AppendAt
import Derived.Lib.SmallJoins
import Derived.Laws.AppendOwn
import Derived.Sort.OwnSortedInts
import Derived.Lib.RowBridge
import Derived.Laws.EntriesVeiled
import Derived.Maps.OwnSet
import Derived.Maps.OwnOps
import Derived.Maps.Views
/-
  Boxes, expressions, filters as values; slices.ContainsFunc over boxes.
-/
namespace Go.Proofs.YtnaglnifpejpjaaGreatDoor.Ch
set_option linter.unusedVariables false
set_option linter.unusedSimpArgs false
set_option linter.unnecessarySimpa false
open Go.RowKit Go.Proofs.YtnaglnifpejpjaaGreatDoorK Go.Proofs.YtnaglnifpejpjaaGreatDoor.XEvalRuns Go.Proofs.YtnaglnifpejpjaaGreatDoorW.PrintWords Go.Proofs.YtnaglnifpejpjaaGreatDoorW.PrintLast

abbrev fV (x : S70) : Value := .agg #[.string x.f0, .int .u8 x.f1, .int .i64 x.f2]
abbrev eV (x : S25) (A4 : Option Addr) (c4 : Nat) (A5 : Option Addr) (c5 : Nat) : Value := .agg #[.int .i64 x.f0, .int .i64 x.f1, .string x.f2, .slice A4 x.f3.length c4, .slice A5 x.f4.length c5]
/-- What an expression leads to lies in W. -/
structure EIn (W : World) (x : S25) (A4 : Option Addr) (c4 : Nat) (A5 : Option Addr) (c5 : Nat) : Prop where
 l3 : x.f3.length ≤ c4
 c3 : Kd.C k70 W A4 x.f3.length x.f3
 l4 : x.f4.length ≤ c5
 c4 : Kd.C k25 W A5 x.f4.length x.f4
theorem EIn.below {W W' : World} {x : S25} {A4 : Option Addr} {c4 : Nat} {A5 : Option Addr} {c5 : Nat} (h : EIn W x A4 c4 A5 c5) (hb : Below W.heap.size W W') : EIn W' x A4 c4 A5 c5 := ⟨h.l3, Kd.C_below h.c3 hb, h.l4, Kd.C_below h.c4 hb⟩

end Go.Proofs.YtnaglnifpejpjaaGreatDoor.Ch

/-
  syntax: names, numbers, filters.
-/
namespace Go.Proofs.YtnaglnifpejpjaaGreatDoor.Ch
set_option linter.unusedVariables false
set_option linter.unusedSimpArgs false
set_option linter.unnecessarySimpa false
open Go.RowKit Go.Proofs.YtnaglnifpejpjaaGreatDoorK Go.Proofs.YtnaglnifpejpjaaGreatDoor.XEvalRuns Go.Proofs.YtnaglnifpejpjaaGreatDoorW.PrintWords Go.Proofs.YtnaglnifpejpjaaGreatDoorW.PrintLast

theorem cells3 {w : World} {g : Nat} {a0 a1 a2 : Value} {t : TypeId} (h : w.heap[g]? = some (.cells #[a0, a1, a2] t (0, 0))) : w.cell? ⟨g, 0, none⟩ = some a0 ∧ w.cell? ⟨g, 1, none⟩ = some a1 ∧ w.cell? ⟨g, 2, none⟩ = some a2 := by refine ⟨?_, ?_, ?_⟩ <;> simp [World.cell?, h]
theorem outB_at (w : World) : PredAt Tryz.prog 131 #[] encR (fun r => decide (r < 97) || decide (122 < r)) w := fun W r _ => by
 unfold FnGives
 by_cases h1 : r < 97 <;> by_cases h2 : 122 < r
 all_goals
  have z1 : (r : Int) < 97 ↔ r < 97 := by omega
  have z2 : (122 : Int) < (r : Int) ↔ 122 < r := by omega
  go_enter Tryz.func131, Tryz.ntmps131
  go_wp2
  go_ret
  exact ⟨by simp [h1, h2, z1, z2], 0, rfl⟩
def numB (n : Int) : Bool := decide (0 ≤ n ∧ n ≤ 999999999999999999)
theorem num_f (n : Int) : syntax_number.f n = some (numB n) := by
 unfold syntax_number.f numB
 by_cases h : n ≥ 0
 ·rw [if_pos h]
  refine congrArg some ?_
  rw [decide_eq_decide]
  exact ⟨fun h2 => ⟨h, h2⟩, fun h2 => h2.2⟩
 ·rw [if_neg h]
  exact congrArg some (decide_eq_false (fun h2 => h h2.1)).symm
def boxedB (n : Int) : Bool := decide (1 ≤ n ∧ n ≤ 9999)
theorem boxed_f (n : Int) : syntax_boxed.f n = some (boxedB n) := by
 unfold syntax_boxed.f boxedB
 by_cases h : n ≥ 1
 ·rw [if_pos h]
  refine congrArg some ?_
  rw [decide_eq_decide]
  exact ⟨fun h2 => ⟨h, h2⟩, fun h2 => h2.2⟩
 ·rw [if_neg h]
  exact congrArg some (decide_eq_false (fun h2 => h h2.1)).symm
def keyB (s : ByteArray) : Bool := (lexer_Keyword.f s).getD false
theorem key_f (s : ByteArray) : lexer_Keyword.f s = some (keyB s) := by
 have : ∃ b, lexer_Keyword.f s = some b := by
  unfold lexer_Keyword.f
  repeat (first | exact ⟨_, rfl⟩ | split)
 obtain ⟨b, h⟩ := this
 unfold keyB
 rw [h]
 rfl
theorem number_any (n : Int) (w : World) : Calls Tryz.prog 92 #[.int .i64 n] w fun e w' => e = .returned (.bool (numB n)) ∧ Below w.heap.size w w' :=
 (syntax_number.calls n _ w (num_f n)).mono fun _ _ ⟨h1, h2⟩ => ⟨h1, h2.below⟩
theorem boxed_any (n : Int) (w : World) : Calls Tryz.prog 93 #[.int .i64 n] w fun e w' => e = .returned (.bool (boxedB n)) ∧ Below w.heap.size w w' :=
 (syntax_boxed.calls n _ w (boxed_f n)).mono fun _ _ ⟨h1, h2⟩ => ⟨h1, h2.below⟩
theorem key_any (s : ByteArray) (w : World) : Calls Tryz.prog 129 #[.string s] w fun e w' => e = .returned (.bool (keyB s)) ∧ Below w.heap.size w w' :=
 (lexer_Keyword.calls s _ w (key_f s)).mono fun _ _ ⟨h1, h2⟩ => ⟨h1, h2.below⟩
noncomputable def outIn (s : ByteArray) : Bool := decide (0 ≤ Lib.idxFunc (fun r => decide (r < 97) || decide (122 < r)) true s)
theorem out_any (s : ByteArray) (w : World) : Calls Tryz.prog 130 #[.string s, .func (.func 131) #[] #[]] w fun e w' => e = .returned (.bool (outIn s)) ∧ Below w.heap.size w w' :=
 Tryz.strings_ContainsFunc 131 #[] (enters_of Tryz.func131 (by kernel_rfl) rfl) _ s w (outB_at w)
noncomputable def nameB (s : ByteArray) : Bool := if s.size < 1 then false else if 32 < s.size then false else if keyB s = true then false else !outIn s
set_option maxRecDepth 100000 in
theorem name_any (s : ByteArray) (w : World) : Calls Tryz.prog 96 #[.string s] w fun e w' => e = .returned (.bool (nameB s)) ∧ Below w.heap.size w w' := by
 have hk := fun w => key_any s w
 have ho := fun w => out_any s w
 unfold nameB
 generalize outIn s = OI at *
 by_cases h1 : s.size < 1
 ·have d1 : decide ((s.size : Int) < 1) = true := decide_eq_true (by omega)
  clear hk ho
  rw [if_pos h1]
  go_enter Tryz.func96, Tryz.ntmps96
  go_wp2
  go_ret
  exact ⟨rfl, Below.refl _ _⟩
 ·have d1 : decide ((s.size : Int) < 1) = false := decide_eq_false (by omega)
  rw [if_neg h1]
  by_cases h2 : 32 < s.size
  ·have d2 : decide ((32 : Int) < (s.size : Int)) = true := decide_eq_true (by omega)
   clear hk ho
   rw [if_pos h2]
   go_enter Tryz.func96, Tryz.ntmps96
   go_wp2
   go_ret
   exact ⟨rfl, Below.refl _ _⟩
  ·have d2 : decide ((32 : Int) < (s.size : Int)) = false := decide_eq_false (by omega)
   rw [if_neg h2]
   cases hkb : keyB s with
   | true =>
     rw [hkb] at hk
     rw [if_pos rfl]
     have HK := Lib.hid hk
     clear hk ho hkb
     go_enter Tryz.func96, Tryz.ntmps96
     go_wp2_with (go_at_call 129; refine (HK.out _).mono ?_; rintro e w1 ⟨rfl, hb⟩; have HB1 := Lib.hid hb; clear hb)
     go_ret
     exact ⟨rfl, HB1.out⟩
   | false =>
     rw [hkb] at hk
     rw [if_neg (by simp)]
     have HK := Lib.hid hk
     have HO := Lib.hid ho
     clear hk ho hkb
     go_enter Tryz.func96, Tryz.ntmps96
     go_wp2_with (first
      | (go_at_call 129; refine (HK.out _).mono ?_; rintro e w1 ⟨rfl, hb⟩; have HB1 := Lib.hid hb; clear hb)
      | (go_at_call 130; refine (HO.out _).mono ?_; rintro e w2 ⟨rfl, hb⟩; have HB2 := Lib.hid (s_trans HB1.out hb); clear hb))
     go_ret
     exact ⟨rfl, HB2.out⟩
noncomputable def picksB (f : S70) : Bool := nameB f.f0 && (decide (f.f1 = 61) || decide (f.f1 = 60) || decide (f.f1 = 62)) && numB f.f2
set_option maxRecDepth 100000 in
theorem picks_any (f : S70) (w : World) : Calls Tryz.prog 95 #[fV f] w fun e w' => e = .returned (.bool (picksB f)) ∧ Below w.heap.size w w' := by
 have hn := fun w => name_any f.f0 w
 have hnum := fun w => number_any f.f2 w
 unfold picksB
 generalize nameB f.f0 = NB at *
 generalize numB f.f2 = UB at *
 have hb0 : Below w.heap.size w (w.alloc (.cells #[.string f.f0, .int .u8 f.f1, .int .i64 f.f2] 70)) := s_alloc (Below.refl _ _) _
 have hx0 : (w.alloc (.cells #[.string f.f0, .int .u8 f.f1, .int .i64 f.f2] 70)).heap[w.heap.size]? = some (.cells #[.string f.f0, .int .u8 f.f1, .int .i64 f.f2] 70 (0, 0)) := Array.getElem?_push_size
 have HN := Lib.hid hn
 have HU := Lib.hid hnum
 have HB0 := Lib.hid hb0
 have HX0 := Lib.hid hx0
 clear hn hnum hb0 hx0
 by_cases k1 : f.f1 = 61 <;> by_cases k2 : f.f1 = 60 <;> by_cases k3 : f.f1 = 62 <;> cases NB
 all_goals
  first
   | (exfalso; omega)
   | skip
 all_goals
  have j1 : (f.f1 == 61) = decide (f.f1 = 61) := by rw [Bool.eq_iff_iff]; simp
  have j2 : (f.f1 == 60) = decide (f.f1 = 60) := by rw [Bool.eq_iff_iff]; simp
  have j3 : (f.f1 == 62) = decide (f.f1 = 62) := by rw [Bool.eq_iff_iff]; simp
  simp only [k1, k2, k3, decide_true, decide_false] at j1 j2 j3
  have J1 := Lib.hid k1
  have J2 := Lib.hid k2
  have J3 := Lib.hid k3
  clear k1 k2 k3
  go_enter Tryz.func95, Tryz.ntmps95
  go_wp2_with (first
   | (go_at_call 96; refine (HN.out _).mono ?_; rintro e w1 ⟨rfl, hb⟩; have HB1 := Lib.hid (s_trans HB0.out hb); obtain ⟨x0, x1, x2⟩ := cells3 (block_on hb HX0.out); clear hb)
   | (go_at_call 92; refine (HU.out _).mono ?_; rintro e w2 ⟨rfl, hb⟩; have HB2 := Lib.hid (s_trans HB1.out hb); clear hb))
  go_ret
  refine ⟨?_, by first | exact HB2.out | exact HB1.out⟩
  first
   | rfl
   | (simp [J1.out, J2.out, J3.out]; done)
end Go.Proofs.YtnaglnifpejpjaaGreatDoor.Ch

/-
  syntax.right: its ways.
-/
namespace Go.Proofs.YtnaglnifpejpjaaGreatDoor.Ch
set_option linter.unusedVariables false
set_option linter.unusedSimpArgs false
set_option linter.unnecessarySimpa false
open Go.RowKit Go.Proofs.YtnaglnifpejpjaaGreatDoorK Go.Proofs.YtnaglnifpejpjaaGreatDoor.XEvalRuns Go.Proofs.YtnaglnifpejpjaaGreatDoorW.PrintWords Go.Proofs.YtnaglnifpejpjaaGreatDoorW.PrintLast

theorem cells5 {w : World} {g : Nat} {a0 a1 a2 a3 a4 : Value} {t : TypeId} (h : w.heap[g]? = some (.cells #[a0, a1, a2, a3, a4] t (0, 0))) : w.cell? ⟨g, 0, none⟩ = some a0 ∧ w.cell? ⟨g, 1, none⟩ = some a1 ∧ w.cell? ⟨g, 2, none⟩ = some a2 ∧ w.cell? ⟨g, 3, none⟩ = some a3 ∧ w.cell? ⟨g, 4, none⟩ = some a4 := by refine ⟨?_, ?_, ?_, ?_, ?_⟩ <;> simp [World.cell?, h]
theorem empty_iff (a : ByteArray) : a.toList = ([] : List UInt8) ↔ a.size = 0 := by
 rw [ByteArray.toList_eq]
 constructor
 ·intro h
  have : a.data.toList.length = 0 := by rw [h]; rfl
  rwa [Array.length_toList] at this
 ·intro h
  exact List.eq_nil_of_length_eq_zero (by rw [Array.length_toList]; exact h)
def kidsB (k : Int) : Int × Bool := if k = 1 ∨ k = 2 ∨ k = 3 then (0, true) else if k = 6 then (1, true) else if k = 4 ∨ k = 5 ∨ k = 7 ∨ k = 8 then (2, true) else if k = 9 then (3, true) else (0, false)
theorem kids_f (k : Int) : syntax_kids.f 5 k = some (kidsB k) := by
 unfold syntax_kids.f kidsB
 by_cases h1 : k = 1
 ·subst h1; rfl
 by_cases h2 : k = 2
 ·subst h2; rfl
 by_cases h3 : k = 3
 ·subst h3; rfl
 by_cases h4 : k = 4
 ·subst h4; rfl
 by_cases h5 : k = 5
 ·subst h5; rfl
 by_cases h6 : k = 6
 ·subst h6; rfl
 by_cases h7 : k = 7
 ·subst h7; rfl
 by_cases h8 : k = 8
 ·subst h8; rfl
 by_cases h9 : k = 9
 ·subst h9; rfl
 simp [syntax_kids.j0, syntax_kids.j1, h1, h2, h3, h4, h5, h6, h7, h8, h9]
theorem kids_any (k : Int) (w : World) : Calls Tryz.prog 91 #[.int .i64 k] w fun e w' => e = .returned (.tuple #[.int .i64 (kidsB k).1, .bool (kidsB k).2]) ∧ Below w.heap.size w w' :=
 (syntax_kids.calls 5 k _ _ w (kids_f k)).mono fun _ _ ⟨h1, h2⟩ => ⟨h1, h2.below⟩
theorem wrong_any (f : S70) (w : World) : Calls Tryz.prog 94 #[fV f] w fun e w' => e = .returned (.bool (!picksB f)) ∧ Below w.heap.size w w' := by
 have hp := fun w => picks_any f w
 generalize picksB f = PB at *
 have hb0 : Below w.heap.size w (w.alloc (.cells #[.string f.f0, .int .u8 f.f1, .int .i64 f.f2] 70)) := s_alloc (Below.refl _ _) _
 have HP := Lib.hid hp
 have HB0 := Lib.hid hb0
 clear hp hb0
 go_enter Tryz.func94, Tryz.ntmps94
 go_wp2_with (go_at_call 95; refine (HP.out _).mono ?_; rintro e w1 ⟨rfl, hb⟩; have HB1 := Lib.hid (s_trans HB0.out hb); clear hb)
 go_ret
 exact ⟨rfl, HB1.out⟩

set_option maxRecDepth 100000 in
set_option maxHeartbeats 2000000 in
theorem wrongF_idx (w : World) (A : Option Addr) (c : Nat) (l : List S70) (p : S70 → Bool) (hr : Kd.C k70 w A l.length l) (hc : l.length ≤ c) (hl : l.length < 1000000000000) (hp : ∀ x ∈ l, ∀ (W : World), Below w.heap.size w W → Calls Tryz.prog 94 #[fV x] W fun e w' => e = .returned (.bool (p x)) ∧ Below W.heap.size W w') :
 Calls Tryz.prog 132 #[.slice A l.length c, .func (.func 94) #[] #[]] w fun e w' => ∃ i : Int, e = .returned (.int .i64 i) ∧ (i < 0 ↔ l.any p = false) ∧ -1 ≤ i ∧ i < l.length ∧ Below w.heap.size w w' := by
 have HR := Lib.hid hr
 have HP := Lib.hid hp
 clear hr hp
 go_enter Tryz.func132, Tryz.ntmps132
 go_wp2
 go_loopw [8] (fun i wr => ∃ k : Nat, k ≤ l.length ∧ i = .int .i64 k ∧ Hid ((l.take k).any p = false) ∧ Hid (Below w.heap.size w wr)) (fun i _ => l.length - (intOf i).toNat)
 case atStart => exact ⟨0, Nat.zero_le _, rfl, by rw [List.take_zero]; rfl, Below.refl _ _⟩
 case round =>
  obtain ⟨k, hk, rfl, HA, HB⟩ := hrel
  by_cases hlt : k < l.length
  ·obtain ⟨ad0, e0, q0, q1, q2⟩ := at_T70 (Kd.C_below HR.out HB.out) (k : Int) (by omega) (by omega)
   have hy : rd_T70 l (k : Int) = l[k] := by unfold rd_T70; rw [Int.toNat_natCast, List.getD_eq_getElem?_getD, List.getElem?_eq_getElem hlt]; rfl
   have htk : (l.take (k + 1)).any p = p l[k] := by
    rw [List.take_succ_eq_append_getElem hlt, List.any_append, HA.out, Bool.false_or, List.any_cons, List.any_nil, Bool.or_false]
   have hmem := List.getElem_mem hlt
   have hyes : p l[k] = true → l.any p = true := fun e => List.any_eq_true.2 ⟨_, hmem, e⟩
   rw [hy] at q0 q1 q2
   rw [Int.toNat_natCast] at q0 q1 q2
   cases e0
   generalize l[k] = y at *
   clear hy
   have HTK := Lib.hid htk
   have HYES := Lib.hid hyes
   clear htk hyes
   skip
   cases hpy : p y with
   | true =>
     have hp1 := fun W hb => HP.out y hmem W hb
     rw [hpy] at hp1
     have HP1 := Lib.hid hp1
     have HPY := Lib.hid hpy
     clear hp1 hpy
     go_wp2_with (go_at_call 94; refine (HP1.out _ HB.out).mono ?_; rintro e w2 ⟨rfl, hb⟩; have HB2 := Lib.hid (s_trans HB.out hb); clear hb)
     go_ret
     refine ⟨k, rfl, ⟨fun h => by omega, fun h => ?_⟩, by omega, by omega, HB2.out⟩
     rw [HYES.out HPY.out] at h; cases h
   | false =>
     have hp1 := fun W hb => HP.out y hmem W hb
     rw [hpy] at hp1
     have HP1 := Lib.hid hp1
     have HPY := Lib.hid hpy
     clear hp1 hpy
     go_wp2_with (go_at_call 94; refine (HP1.out _ HB.out).mono ?_; rintro e w2 ⟨rfl, hb⟩; have HB2 := Lib.hid (s_trans HB.out hb); clear hb)
     go_roundw
     case rel => exact ⟨k + 1, by omega, by go_num, Lib.hid (HTK.out.trans HPY.out), HB2⟩
     case measure => simp [intOf]; omega
  ·obtain rfl : k = l.length := by omega
   go_wp2
   go_ret
   refine ⟨-1, rfl, ⟨fun _ => ?_, fun _ => by omega⟩, by omega, by omega, HB.out⟩
   have := HA.out
   rwa [List.take_length] at this
set_option maxRecDepth 100000 in
theorem wrongF_any (w : World) (A : Option Addr) (c : Nat) (l : List S70) (p : S70 → Bool) (hr : Kd.C k70 w A l.length l) (hc : l.length ≤ c) (hl : l.length < 1000000000000) (hp : ∀ x ∈ l, ∀ (W : World), Below w.heap.size w W → Calls Tryz.prog 94 #[fV x] W fun e w' => e = .returned (.bool (p x)) ∧ Below W.heap.size W w') :
 Calls Tryz.prog 97 #[.slice A l.length c, .func (.func 94) #[] #[]] w fun e w' => e = .returned (.bool (l.any p)) ∧ Below w.heap.size w w' := by
 have hi := wrongF_idx w A c l p hr hc hl hp
 have HI := Lib.hid hi
 clear hi hr hp
 cases ha : l.any p with
 | true =>
   have HA := Lib.hid ha
   clear ha
   go_enter Tryz.func97, Tryz.ntmps97
   go_wp2_with (go_at_call 132; refine HI.out.mono ?_; rintro e w2 ⟨i, rfl, h1, h2, h3, hb⟩; have hge : (0 : Int) ≤ i := (by have := HA.out; rw [this] at h1; simp at h1; exact h1); have hd : decide ((0 : Int) ≤ i) = true := decide_eq_true hge; have HB2 := Lib.hid hb; clear hb h1)
   go_ret
   exact ⟨rfl, HB2.out⟩
 | false =>
   have HA := Lib.hid ha
   clear ha
   go_enter Tryz.func97, Tryz.ntmps97
   go_wp2_with (go_at_call 132; refine HI.out.mono ?_; rintro e w2 ⟨i, rfl, h1, h2, h3, hb⟩; have hge : ¬ (0 : Int) ≤ i := (by have := HA.out; rw [this] at h1; simp at h1; omega); have hd : decide ((0 : Int) ≤ i) = false := decide_eq_false hge; have HB2 := Lib.hid hb; clear hb h1)
   go_ret
   exact ⟨rfl, HB2.out⟩

set_option maxRecDepth 100000 in
set_option maxHeartbeats 2000000 in
theorem kid_idx (w : World) (A : Option Addr) (c : Nat) (l : List S25) (p : S25 → Bool) (hr : Kd.C k25 w A l.length l) (hc : l.length ≤ c) (hl : l.length < 1000000000000) (hp : ∀ x ∈ l, ∀ (A4 : Option Addr) (c4 : Nat) (A5 : Option Addr) (c5 : Nat) (W : World), Below w.heap.size w W → EIn W x A4 c4 A5 c5 → Calls Tryz.prog 98 #[eV x A4 c4 A5 c5] W fun e w' => e = .returned (.bool (p x)) ∧ Below W.heap.size W w') :
 Calls Tryz.prog 133 #[.slice A l.length c, .func (.func 98) #[] #[]] w fun e w' => ∃ i : Int, e = .returned (.int .i64 i) ∧ (i < 0 ↔ l.any p = false) ∧ -1 ≤ i ∧ i < l.length ∧ Below w.heap.size w w' := by
 have HR := Lib.hid hr
 have HP := Lib.hid hp
 clear hr hp
 go_enter Tryz.func133, Tryz.ntmps133
 go_wp2
 go_loopw [8] (fun i wr => ∃ k : Nat, k ≤ l.length ∧ i = .int .i64 k ∧ Hid ((l.take k).any p = false) ∧ Hid (Below w.heap.size w wr)) (fun i _ => l.length - (intOf i).toNat)
 case atStart => exact ⟨0, Nat.zero_le _, rfl, by rw [List.take_zero]; rfl, Below.refl _ _⟩
 case round =>
  obtain ⟨k, hk, rfl, HA, HB⟩ := hrel
  by_cases hlt : k < l.length
  ·obtain ⟨ad0, A4, c4, A5, c5, e0, q0, q1, q2, q3, q4, g3, g4, g5, g6⟩ := at_T25 (Kd.C_below HR.out HB.out) (k : Int) (by omega) (by omega)
   have hy : rd_T25 l (k : Int) = l[k] := by unfold rd_T25; rw [Int.toNat_natCast, List.getD_eq_getElem?_getD, List.getElem?_eq_getElem hlt]; rfl
   have htk : (l.take (k + 1)).any p = p l[k] := by
    rw [List.take_succ_eq_append_getElem hlt, List.any_append, HA.out, Bool.false_or, List.any_cons, List.any_nil, Bool.or_false]
   have hmem := List.getElem_mem hlt
   have hyes : p l[k] = true → l.any p = true := fun e => List.any_eq_true.2 ⟨_, hmem, e⟩
   rw [hy] at q0 q1 q2 q3 q4 g3 g4 g5 g6
   rw [Int.toNat_natCast] at q0 q1 q2 q3 q4
   cases e0
   generalize l[k] = y at *
   clear hy
   have HTK := Lib.hid htk
   have HYES := Lib.hid hyes
   clear htk hyes
   have HIN := Lib.hid (⟨g3, g4, g5, g6⟩ : EIn wr y A4 c4 A5 c5)
   clear g3 g4 g5 g6
   cases hpy : p y with
   | true =>
     have hp1 := fun W hb hi => HP.out y hmem A4 c4 A5 c5 W hb hi
     rw [hpy] at hp1
     have HP1 := Lib.hid hp1
     have HPY := Lib.hid hpy
     clear hp1 hpy
     go_wp2_with (go_at_call 98; refine (HP1.out _ HB.out HIN.out).mono ?_; rintro e w2 ⟨rfl, hb⟩; have HB2 := Lib.hid (s_trans HB.out hb); clear hb)
     go_ret
     refine ⟨k, rfl, ⟨fun h => by omega, fun h => ?_⟩, by omega, by omega, HB2.out⟩
     rw [HYES.out HPY.out] at h; cases h
   | false =>
     have hp1 := fun W hb hi => HP.out y hmem A4 c4 A5 c5 W hb hi
     rw [hpy] at hp1
     have HP1 := Lib.hid hp1
     have HPY := Lib.hid hpy
     clear hp1 hpy
     go_wp2_with (go_at_call 98; refine (HP1.out _ HB.out HIN.out).mono ?_; rintro e w2 ⟨rfl, hb⟩; have HB2 := Lib.hid (s_trans HB.out hb); clear hb)
     go_roundw
     case rel => exact ⟨k + 1, by omega, by go_num, Lib.hid (HTK.out.trans HPY.out), HB2⟩
     case measure => simp [intOf]; omega
  ·obtain rfl : k = l.length := by omega
   go_wp2
   go_ret
   refine ⟨-1, rfl, ⟨fun _ => ?_, fun _ => by omega⟩, by omega, by omega, HB.out⟩
   have := HA.out
   rwa [List.take_length] at this
set_option maxRecDepth 100000 in
theorem kid_any (w : World) (A : Option Addr) (c : Nat) (l : List S25) (p : S25 → Bool) (hr : Kd.C k25 w A l.length l) (hc : l.length ≤ c) (hl : l.length < 1000000000000) (hp : ∀ x ∈ l, ∀ (A4 : Option Addr) (c4 : Nat) (A5 : Option Addr) (c5 : Nat) (W : World), Below w.heap.size w W → EIn W x A4 c4 A5 c5 → Calls Tryz.prog 98 #[eV x A4 c4 A5 c5] W fun e w' => e = .returned (.bool (p x)) ∧ Below W.heap.size W w') :
 Calls Tryz.prog 99 #[.slice A l.length c, .func (.func 98) #[] #[]] w fun e w' => e = .returned (.bool (l.any p)) ∧ Below w.heap.size w w' := by
 have hi := kid_idx w A c l p hr hc hl hp
 have HI := Lib.hid hi
 clear hi hr hp
 cases ha : l.any p with
 | true =>
   have HA := Lib.hid ha
   clear ha
   go_enter Tryz.func99, Tryz.ntmps99
   go_wp2_with (go_at_call 133; refine HI.out.mono ?_; rintro e w2 ⟨i, rfl, h1, h2, h3, hb⟩; have hge : (0 : Int) ≤ i := (by have := HA.out; rw [this] at h1; simp at h1; exact h1); have hd : decide ((0 : Int) ≤ i) = true := decide_eq_true hge; have HB2 := Lib.hid hb; clear hb h1)
   go_ret
   exact ⟨rfl, HB2.out⟩
 | false =>
   have HA := Lib.hid ha
   clear ha
   go_enter Tryz.func99, Tryz.ntmps99
   go_wp2_with (go_at_call 133; refine HI.out.mono ?_; rintro e w2 ⟨i, rfl, h1, h2, h3, hb⟩; have hge : ¬ (0 : Int) ≤ i := (by have := HA.out; rw [this] at h1; simp at h1; omega); have hd : decide ((0 : Int) ≤ i) = false := decide_eq_false hge; have HB2 := Lib.hid hb; clear hb h1)
   go_ret
   exact ⟨rfl, HB2.out⟩
end Go.Proofs.YtnaglnifpejpjaaGreatDoor.Ch

/-
  syntax.right: each way walked.
-/
namespace Go.Proofs.YtnaglnifpejpjaaGreatDoor.Ch
set_option linter.unusedVariables false
set_option linter.unusedSimpArgs false
set_option linter.unnecessarySimpa false
open Go.RowKit Go.Proofs.YtnaglnifpejpjaaGreatDoorK Go.Proofs.YtnaglnifpejpjaaGreatDoor.XEvalRuns Go.Proofs.YtnaglnifpejpjaaGreatDoorW.PrintWords Go.Proofs.YtnaglnifpejpjaaGreatDoorW.PrintLast

set_option maxRecDepth 100000 in
set_option maxHeartbeats 2000000 in
theorem right_no (x : S25) (A4 : Option Addr) (c4 : Nat) (A5 : Option Addr) (c5 : Nat) (w : World) (hin : EIn w x A4 c4 A5 c5) (m : Int) (ok : Bool) (hk : kidsB x.f0 = (m, ok)) (hok : ok = false) :
 Calls Tryz.prog 56 #[eV x A4 c4 A5 c5] w fun e w' => e = .returned (.bool false) ∧ Below w.heap.size w w' := by
 obtain ⟨k, n, f, fs, ks⟩ := x
 obtain ⟨l3, g3, l4, g4⟩ := hin
 dsimp only at *
 have hkids := fun w => kids_any k w
 rw [hk] at hkids
 clear hk
 have HK := Lib.hid hkids
 have HG3 := Lib.hid g3
 have HG4 := Lib.hid g4
 have hb0 : Below w.heap.size w (w.alloc (.cells #[.int .i64 k, .int .i64 n, .string f, .slice A4 fs.length c4, .slice A5 ks.length c5] 25)) := s_alloc (Below.refl _ _) _
 have hx0 : (w.alloc (.cells #[.int .i64 k, .int .i64 n, .string f, .slice A4 fs.length c4, .slice A5 ks.length c5] 25)).heap[w.heap.size]? = some (.cells #[.int .i64 k, .int .i64 n, .string f, .slice A4 fs.length c4, .slice A5 ks.length c5] 25 (0, 0)) := Array.getElem?_push_size
 have HB0 := Lib.hid hb0
 have HX0 := Lib.hid hx0
 subst hok
 clear hkids hb0 hx0 g3 g4
 go_enter Tryz.func56, Tryz.ntmps56
 go_wp2_with (first
  | (go_at_call 91; refine (HK.out _).mono ?_; rintro e w1 ⟨rfl, hb⟩; have HB1 := Lib.hid (s_trans HB0.out hb); have HX1 := Lib.hid (block_on hb HX0.out); obtain ⟨x0, x1, x2, x3, x4⟩ := cells5 HX1.out; clear hb))
 go_ret
 exact ⟨rfl, by first | exact HB3.out | exact HB2.out | exact HB1.out⟩

set_option maxRecDepth 100000 in
set_option maxHeartbeats 2000000 in
theorem right_len (x : S25) (A4 : Option Addr) (c4 : Nat) (A5 : Option Addr) (c5 : Nat) (w : World) (hin : EIn w x A4 c4 A5 c5) (m : Int) (ok : Bool) (hk : kidsB x.f0 = (m, ok)) (hok : ok = true) (hlen : (x.f4.length : Int) ≠ m) :
 Calls Tryz.prog 56 #[eV x A4 c4 A5 c5] w fun e w' => e = .returned (.bool false) ∧ Below w.heap.size w w' := by
 obtain ⟨k, n, f, fs, ks⟩ := x
 obtain ⟨l3, g3, l4, g4⟩ := hin
 dsimp only at *
 have hkids := fun w => kids_any k w
 rw [hk] at hkids
 clear hk
 have HK := Lib.hid hkids
 have HG3 := Lib.hid g3
 have HG4 := Lib.hid g4
 have hb0 : Below w.heap.size w (w.alloc (.cells #[.int .i64 k, .int .i64 n, .string f, .slice A4 fs.length c4, .slice A5 ks.length c5] 25)) := s_alloc (Below.refl _ _) _
 have hx0 : (w.alloc (.cells #[.int .i64 k, .int .i64 n, .string f, .slice A4 fs.length c4, .slice A5 ks.length c5] 25)).heap[w.heap.size]? = some (.cells #[.int .i64 k, .int .i64 n, .string f, .slice A4 fs.length c4, .slice A5 ks.length c5] 25 (0, 0)) := Array.getElem?_push_size
 have HB0 := Lib.hid hb0
 have HX0 := Lib.hid hx0
 subst hok
 have q1 : ((ks.length : Int) != m) = true := by simpa using hlen
 clear hlen
 clear hkids hb0 hx0 g3 g4
 go_enter Tryz.func56, Tryz.ntmps56
 go_wp2_with (first
  | (go_at_call 91; refine (HK.out _).mono ?_; rintro e w1 ⟨rfl, hb⟩; have HB1 := Lib.hid (s_trans HB0.out hb); have HX1 := Lib.hid (block_on hb HX0.out); obtain ⟨x0, x1, x2, x3, x4⟩ := cells5 HX1.out; clear hb))
 go_ret
 exact ⟨rfl, by first | exact HB3.out | exact HB2.out | exact HB1.out⟩

set_option maxRecDepth 100000 in
set_option maxHeartbeats 2000000 in
theorem right_field (x : S25) (A4 : Option Addr) (c4 : Nat) (A5 : Option Addr) (c5 : Nat) (w : World) (hin : EIn w x A4 c4 A5 c5) (m : Int) (ok : Bool) (hk : kidsB x.f0 = (m, ok)) (hok : ok = true) (hlen : (x.f4.length : Int) = m) (h0 : x.f0 ≠ 3) (hf : x.f2.size ≠ 0) :
 Calls Tryz.prog 56 #[eV x A4 c4 A5 c5] w fun e w' => e = .returned (.bool false) ∧ Below w.heap.size w w' := by
 obtain ⟨k, n, f, fs, ks⟩ := x
 obtain ⟨l3, g3, l4, g4⟩ := hin
 dsimp only at *
 have hkids := fun w => kids_any k w
 rw [hk] at hkids
 clear hk
 have HK := Lib.hid hkids
 have HG3 := Lib.hid g3
 have HG4 := Lib.hid g4
 have hb0 : Below w.heap.size w (w.alloc (.cells #[.int .i64 k, .int .i64 n, .string f, .slice A4 fs.length c4, .slice A5 ks.length c5] 25)) := s_alloc (Below.refl _ _) _
 have hx0 : (w.alloc (.cells #[.int .i64 k, .int .i64 n, .string f, .slice A4 fs.length c4, .slice A5 ks.length c5] 25)).heap[w.heap.size]? = some (.cells #[.int .i64 k, .int .i64 n, .string f, .slice A4 fs.length c4, .slice A5 ks.length c5] 25 (0, 0)) := Array.getElem?_push_size
 have HB0 := Lib.hid hb0
 have HX0 := Lib.hid hx0
 subst hok
 have q1 : ((ks.length : Int) != m) = false := by rw [hlen]; simp
 have HLEN := Lib.hid hlen
 clear hlen
 have b3 : (k == 3) = false := beq_eq_false_iff_ne.2 h0
 have n3 : (k != 3) = true := by unfold bne; rw [b3]; rfl
 clear h0
 have e1 : ¬ f.toList = [] := fun e => hf ((empty_iff f).1 e)
 have e2 : f.toList.isEmpty = false := by cases hq : f.toList with | nil => exact absurd hq e1 | cons a l => rfl
 have e3 : (f.toList != []) = true := by simpa using e1
 clear e1 hf
 clear hkids hb0 hx0 g3 g4
 go_enter Tryz.func56, Tryz.ntmps56
 go_wp2_with (first
  | (go_at_call 91; refine (HK.out _).mono ?_; rintro e w1 ⟨rfl, hb⟩; have HB1 := Lib.hid (s_trans HB0.out hb); have HX1 := Lib.hid (block_on hb HX0.out); obtain ⟨x0, x1, x2, x3, x4⟩ := cells5 HX1.out; clear hb))
 go_ret
 exact ⟨rfl, by first | exact HB3.out | exact HB2.out | exact HB1.out⟩

set_option maxRecDepth 100000 in
set_option maxHeartbeats 2000000 in
theorem right_filt (x : S25) (A4 : Option Addr) (c4 : Nat) (A5 : Option Addr) (c5 : Nat) (w : World) (hin : EIn w x A4 c4 A5 c5) (m : Int) (ok : Bool) (hk : kidsB x.f0 = (m, ok)) (hok : ok = true) (hlen : (x.f4.length : Int) = m) (h0 : x.f0 ≠ 3) (hf : x.f2.size = 0) (hfs : 0 < x.f3.length) :
 Calls Tryz.prog 56 #[eV x A4 c4 A5 c5] w fun e w' => e = .returned (.bool false) ∧ Below w.heap.size w w' := by
 obtain ⟨k, n, f, fs, ks⟩ := x
 obtain ⟨l3, g3, l4, g4⟩ := hin
 dsimp only at *
 have hkids := fun w => kids_any k w
 rw [hk] at hkids
 clear hk
 have HK := Lib.hid hkids
 have HG3 := Lib.hid g3
 have HG4 := Lib.hid g4
 have hb0 : Below w.heap.size w (w.alloc (.cells #[.int .i64 k, .int .i64 n, .string f, .slice A4 fs.length c4, .slice A5 ks.length c5] 25)) := s_alloc (Below.refl _ _) _
 have hx0 : (w.alloc (.cells #[.int .i64 k, .int .i64 n, .string f, .slice A4 fs.length c4, .slice A5 ks.length c5] 25)).heap[w.heap.size]? = some (.cells #[.int .i64 k, .int .i64 n, .string f, .slice A4 fs.length c4, .slice A5 ks.length c5] 25 (0, 0)) := Array.getElem?_push_size
 have HB0 := Lib.hid hb0
 have HX0 := Lib.hid hx0
 subst hok
 have q1 : ((ks.length : Int) != m) = false := by rw [hlen]; simp
 have HLEN := Lib.hid hlen
 clear hlen
 have b3 : (k == 3) = false := beq_eq_false_iff_ne.2 h0
 have n3 : (k != 3) = true := by unfold bne; rw [b3]; rfl
 clear h0
 have e1 : f.toList = [] := (empty_iff f).2 hf
 have e2 : f.toList.isEmpty = true := by rw [e1]; rfl
 have e3 : (f.toList != []) = false := by rw [e1]; rfl
 have E1 := Lib.hid e1
 clear e1 hf
 have z1 : decide (0 < fs.length) = true := decide_eq_true (by omega)
 clear hkids hb0 hx0 g3 g4
 go_enter Tryz.func56, Tryz.ntmps56
 go_wp2_with (first
  | (go_at_call 91; refine (HK.out _).mono ?_; rintro e w1 ⟨rfl, hb⟩; have HB1 := Lib.hid (s_trans HB0.out hb); have HX1 := Lib.hid (block_on hb HX0.out); obtain ⟨x0, x1, x2, x3, x4⟩ := cells5 HX1.out; clear hb))
 go_ret
 exact ⟨rfl, by first | exact HB3.out | exact HB2.out | exact HB1.out⟩

set_option maxRecDepth 100000 in
set_option maxHeartbeats 2000000 in
theorem right_k1 (x : S25) (A4 : Option Addr) (c4 : Nat) (A5 : Option Addr) (c5 : Nat) (w : World) (hin : EIn w x A4 c4 A5 c5) (m : Int) (ok : Bool) (hk : kidsB x.f0 = (m, ok)) (hok : ok = true) (hlen : (x.f4.length : Int) = m) (h0 : x.f0 = 1) (hf : x.f2.size = 0) (hfs : x.f3.length = 0) :
 Calls Tryz.prog 56 #[eV x A4 c4 A5 c5] w fun e w' => e = .returned (.bool (numB x.f1)) ∧ Below w.heap.size w w' := by
 obtain ⟨k, n, f, fs, ks⟩ := x
 obtain ⟨l3, g3, l4, g4⟩ := hin
 dsimp only at *
 have hkids := fun w => kids_any k w
 rw [hk] at hkids
 clear hk
 have HK := Lib.hid hkids
 have HG3 := Lib.hid g3
 have HG4 := Lib.hid g4
 have hb0 : Below w.heap.size w (w.alloc (.cells #[.int .i64 k, .int .i64 n, .string f, .slice A4 fs.length c4, .slice A5 ks.length c5] 25)) := s_alloc (Below.refl _ _) _
 have hx0 : (w.alloc (.cells #[.int .i64 k, .int .i64 n, .string f, .slice A4 fs.length c4, .slice A5 ks.length c5] 25)).heap[w.heap.size]? = some (.cells #[.int .i64 k, .int .i64 n, .string f, .slice A4 fs.length c4, .slice A5 ks.length c5] 25 (0, 0)) := Array.getElem?_push_size
 have HB0 := Lib.hid hb0
 have HX0 := Lib.hid hx0
 subst hok
 have q1 : ((ks.length : Int) != m) = false := by rw [hlen]; simp
 have HLEN := Lib.hid hlen
 clear hlen
 have e1 : f.toList = [] := (empty_iff f).2 hf
 have e2 : f.toList.isEmpty = true := by rw [e1]; rfl
 have e3 : (f.toList != []) = false := by rw [e1]; rfl
 have E1 := Lib.hid e1
 clear e1 hf
 have z1 : decide (0 < fs.length) = false := decide_eq_false (by omega)
 clear hfs
 have b1 : (k == 1) = true := by rw [h0]; rfl
 have b2 : (k == 2) = false := by rw [h0]; rfl
 have b3 : (k == 3) = false := by rw [h0]; rfl
 have n3 : (k != 3) = true := by unfold bne; rw [b3]; rfl
 clear h0
 have hnum := fun w => number_any n w
 generalize numB n = NB at *
 have HNUM := Lib.hid hnum
 clear hnum
 clear hkids hb0 hx0 g3 g4
 go_enter Tryz.func56, Tryz.ntmps56
 go_wp2_with (first
  | (go_at_call 91; refine (HK.out _).mono ?_; rintro e w1 ⟨rfl, hb⟩; have HB1 := Lib.hid (s_trans HB0.out hb); have HX1 := Lib.hid (block_on hb HX0.out); obtain ⟨x0, x1, x2, x3, x4⟩ := cells5 HX1.out; clear hb)
  | (go_at_call 92; refine (HNUM.out _).mono ?_; rintro e w2 ⟨rfl, hb⟩; have HB2 := Lib.hid (s_trans HB1.out hb); clear hb))
 go_ret
 exact ⟨rfl, by first | exact HB3.out | exact HB2.out | exact HB1.out⟩

set_option maxRecDepth 100000 in
set_option maxHeartbeats 2000000 in
theorem right_k2 (x : S25) (A4 : Option Addr) (c4 : Nat) (A5 : Option Addr) (c5 : Nat) (w : World) (hin : EIn w x A4 c4 A5 c5) (m : Int) (ok : Bool) (hk : kidsB x.f0 = (m, ok)) (hok : ok = true) (hlen : (x.f4.length : Int) = m) (h0 : x.f0 = 2) (hf : x.f2.size = 0) (hfs : x.f3.length = 0) :
 Calls Tryz.prog 56 #[eV x A4 c4 A5 c5] w fun e w' => e = .returned (.bool (boxedB x.f1)) ∧ Below w.heap.size w w' := by
 obtain ⟨k, n, f, fs, ks⟩ := x
 obtain ⟨l3, g3, l4, g4⟩ := hin
 dsimp only at *
 have hkids := fun w => kids_any k w
 rw [hk] at hkids
 clear hk
 have HK := Lib.hid hkids
 have HG3 := Lib.hid g3
 have HG4 := Lib.hid g4
 have hb0 : Below w.heap.size w (w.alloc (.cells #[.int .i64 k, .int .i64 n, .string f, .slice A4 fs.length c4, .slice A5 ks.length c5] 25)) := s_alloc (Below.refl _ _) _
 have hx0 : (w.alloc (.cells #[.int .i64 k, .int .i64 n, .string f, .slice A4 fs.length c4, .slice A5 ks.length c5] 25)).heap[w.heap.size]? = some (.cells #[.int .i64 k, .int .i64 n, .string f, .slice A4 fs.length c4, .slice A5 ks.length c5] 25 (0, 0)) := Array.getElem?_push_size
 have HB0 := Lib.hid hb0
 have HX0 := Lib.hid hx0
 subst hok
 have q1 : ((ks.length : Int) != m) = false := by rw [hlen]; simp
 have HLEN := Lib.hid hlen
 clear hlen
 have e1 : f.toList = [] := (empty_iff f).2 hf
 have e2 : f.toList.isEmpty = true := by rw [e1]; rfl
 have e3 : (f.toList != []) = false := by rw [e1]; rfl
 have E1 := Lib.hid e1
 clear e1 hf
 have z1 : decide (0 < fs.length) = false := decide_eq_false (by omega)
 clear hfs
 have b1 : (k == 1) = false := by rw [h0]; rfl
 have b2 : (k == 2) = true := by rw [h0]; rfl
 have b3 : (k == 3) = false := by rw [h0]; rfl
 have n3 : (k != 3) = true := by unfold bne; rw [b3]; rfl
 clear h0
 have hnum := fun w => boxed_any n w
 generalize boxedB n = NB at *
 have HNUM := Lib.hid hnum
 clear hnum
 clear hkids hb0 hx0 g3 g4
 go_enter Tryz.func56, Tryz.ntmps56
 go_wp2_with (first
  | (go_at_call 91; refine (HK.out _).mono ?_; rintro e w1 ⟨rfl, hb⟩; have HB1 := Lib.hid (s_trans HB0.out hb); have HX1 := Lib.hid (block_on hb HX0.out); obtain ⟨x0, x1, x2, x3, x4⟩ := cells5 HX1.out; clear hb)
  | (go_at_call 93; refine (HNUM.out _).mono ?_; rintro e w2 ⟨rfl, hb⟩; have HB2 := Lib.hid (s_trans HB1.out hb); clear hb))
 go_ret
 exact ⟨rfl, by first | exact HB3.out | exact HB2.out | exact HB1.out⟩

set_option maxRecDepth 100000 in
set_option maxHeartbeats 2000000 in
theorem right_k3n (x : S25) (A4 : Option Addr) (c4 : Nat) (A5 : Option Addr) (c5 : Nat) (w : World) (hin : EIn w x A4 c4 A5 c5) (m : Int) (ok : Bool) (hk : kidsB x.f0 = (m, ok)) (hok : ok = true) (hlen : (x.f4.length : Int) = m) (h0 : x.f0 = 3) (hn : x.f1 ≠ 0) :
 Calls Tryz.prog 56 #[eV x A4 c4 A5 c5] w fun e w' => e = .returned (.bool false) ∧ Below w.heap.size w w' := by
 obtain ⟨k, n, f, fs, ks⟩ := x
 obtain ⟨l3, g3, l4, g4⟩ := hin
 dsimp only at *
 have hkids := fun w => kids_any k w
 rw [hk] at hkids
 clear hk
 have HK := Lib.hid hkids
 have HG3 := Lib.hid g3
 have HG4 := Lib.hid g4
 have hb0 : Below w.heap.size w (w.alloc (.cells #[.int .i64 k, .int .i64 n, .string f, .slice A4 fs.length c4, .slice A5 ks.length c5] 25)) := s_alloc (Below.refl _ _) _
 have hx0 : (w.alloc (.cells #[.int .i64 k, .int .i64 n, .string f, .slice A4 fs.length c4, .slice A5 ks.length c5] 25)).heap[w.heap.size]? = some (.cells #[.int .i64 k, .int .i64 n, .string f, .slice A4 fs.length c4, .slice A5 ks.length c5] 25 (0, 0)) := Array.getElem?_push_size
 have HB0 := Lib.hid hb0
 have HX0 := Lib.hid hx0
 subst hok
 have q1 : ((ks.length : Int) != m) = false := by rw [hlen]; simp
 have HLEN := Lib.hid hlen
 clear hlen
 have b1 : (k == 1) = false := by rw [h0]; rfl
 have b2 : (k == 2) = false := by rw [h0]; rfl
 have b3 : (k == 3) = true := by rw [h0]; rfl
 have n3 : (k != 3) = false := by unfold bne; rw [b3]; rfl
 clear h0
 have y0 : (n == 0) = false := beq_eq_false_iff_ne.2 hn
 clear hn
 clear hkids hb0 hx0 g3 g4
 go_enter Tryz.func56, Tryz.ntmps56
 go_wp2_with (first
  | (go_at_call 91; refine (HK.out _).mono ?_; rintro e w1 ⟨rfl, hb⟩; have HB1 := Lib.hid (s_trans HB0.out hb); have HX1 := Lib.hid (block_on hb HX0.out); obtain ⟨x0, x1, x2, x3, x4⟩ := cells5 HX1.out; clear hb))
 go_ret
 exact ⟨rfl, by first | exact HB3.out | exact HB2.out | exact HB1.out⟩

set_option maxRecDepth 100000 in
set_option maxHeartbeats 2000000 in
theorem right_k3name (x : S25) (A4 : Option Addr) (c4 : Nat) (A5 : Option Addr) (c5 : Nat) (w : World) (hin : EIn w x A4 c4 A5 c5) (m : Int) (ok : Bool) (hk : kidsB x.f0 = (m, ok)) (hok : ok = true) (hlen : (x.f4.length : Int) = m) (h0 : x.f0 = 3) (hn : x.f1 = 0) (hnb : nameB x.f2 = false) :
 Calls Tryz.prog 56 #[eV x A4 c4 A5 c5] w fun e w' => e = .returned (.bool false) ∧ Below w.heap.size w w' := by
 obtain ⟨k, n, f, fs, ks⟩ := x
 obtain ⟨l3, g3, l4, g4⟩ := hin
 dsimp only at *
 have hkids := fun w => kids_any k w
 rw [hk] at hkids
 clear hk
 have HK := Lib.hid hkids
 have HG3 := Lib.hid g3
 have HG4 := Lib.hid g4
 have hb0 : Below w.heap.size w (w.alloc (.cells #[.int .i64 k, .int .i64 n, .string f, .slice A4 fs.length c4, .slice A5 ks.length c5] 25)) := s_alloc (Below.refl _ _) _
 have hx0 : (w.alloc (.cells #[.int .i64 k, .int .i64 n, .string f, .slice A4 fs.length c4, .slice A5 ks.length c5] 25)).heap[w.heap.size]? = some (.cells #[.int .i64 k, .int .i64 n, .string f, .slice A4 fs.length c4, .slice A5 ks.length c5] 25 (0, 0)) := Array.getElem?_push_size
 have HB0 := Lib.hid hb0
 have HX0 := Lib.hid hx0
 subst hok
 have q1 : ((ks.length : Int) != m) = false := by rw [hlen]; simp
 have HLEN := Lib.hid hlen
 clear hlen
 have b1 : (k == 1) = false := by rw [h0]; rfl
 have b2 : (k == 2) = false := by rw [h0]; rfl
 have b3 : (k == 3) = true := by rw [h0]; rfl
 have n3 : (k != 3) = false := by unfold bne; rw [b3]; rfl
 clear h0
 have y0 : (n == 0) = true := by rw [hn]; rfl
 clear hn
 have hnm := fun w => name_any f w
 rw [hnb] at hnm
 have HN := Lib.hid hnm
 clear hnm hnb
 clear hkids hb0 hx0 g3 g4
 go_enter Tryz.func56, Tryz.ntmps56
 go_wp2_with (first
  | (go_at_call 91; refine (HK.out _).mono ?_; rintro e w1 ⟨rfl, hb⟩; have HB1 := Lib.hid (s_trans HB0.out hb); have HX1 := Lib.hid (block_on hb HX0.out); obtain ⟨x0, x1, x2, x3, x4⟩ := cells5 HX1.out; clear hb)
  | (go_at_call 96; refine (HN.out _).mono ?_; rintro e w2 ⟨rfl, hb⟩; have HB2 := Lib.hid (s_trans HB1.out hb); have HX2 := Lib.hid (block_on hb HX1.out); obtain ⟨x0, x1, x2, x3, x4⟩ := cells5 HX2.out; clear hb))
 go_ret
 exact ⟨rfl, by first | exact HB3.out | exact HB2.out | exact HB1.out⟩

set_option maxRecDepth 100000 in
set_option maxHeartbeats 2000000 in
theorem right_k3many (x : S25) (A4 : Option Addr) (c4 : Nat) (A5 : Option Addr) (c5 : Nat) (w : World) (hin : EIn w x A4 c4 A5 c5) (m : Int) (ok : Bool) (hk : kidsB x.f0 = (m, ok)) (hok : ok = true) (hlen : (x.f4.length : Int) = m) (h0 : x.f0 = 3) (hn : x.f1 = 0) (hnb : nameB x.f2 = true) (hfs : 16 < x.f3.length) :
 Calls Tryz.prog 56 #[eV x A4 c4 A5 c5] w fun e w' => e = .returned (.bool false) ∧ Below w.heap.size w w' := by
 obtain ⟨k, n, f, fs, ks⟩ := x
 obtain ⟨l3, g3, l4, g4⟩ := hin
 dsimp only at *
 have hkids := fun w => kids_any k w
 rw [hk] at hkids
 clear hk
 have HK := Lib.hid hkids
 have HG3 := Lib.hid g3
 have HG4 := Lib.hid g4
 have hb0 : Below w.heap.size w (w.alloc (.cells #[.int .i64 k, .int .i64 n, .string f, .slice A4 fs.length c4, .slice A5 ks.length c5] 25)) := s_alloc (Below.refl _ _) _
 have hx0 : (w.alloc (.cells #[.int .i64 k, .int .i64 n, .string f, .slice A4 fs.length c4, .slice A5 ks.length c5] 25)).heap[w.heap.size]? = some (.cells #[.int .i64 k, .int .i64 n, .string f, .slice A4 fs.length c4, .slice A5 ks.length c5] 25 (0, 0)) := Array.getElem?_push_size
 have HB0 := Lib.hid hb0
 have HX0 := Lib.hid hx0
 subst hok
 have q1 : ((ks.length : Int) != m) = false := by rw [hlen]; simp
 have HLEN := Lib.hid hlen
 clear hlen
 have b1 : (k == 1) = false := by rw [h0]; rfl
 have b2 : (k == 2) = false := by rw [h0]; rfl
 have b3 : (k == 3) = true := by rw [h0]; rfl
 have n3 : (k != 3) = false := by unfold bne; rw [b3]; rfl
 clear h0
 have y0 : (n == 0) = true := by rw [hn]; rfl
 clear hn
 have hnm := fun w => name_any f w
 rw [hnb] at hnm
 have HN := Lib.hid hnm
 clear hnm hnb
 have z2 : decide ((fs.length : Int) ≤ 16) = false := decide_eq_false (by omega)
 clear hkids hb0 hx0 g3 g4
 go_enter Tryz.func56, Tryz.ntmps56
 go_wp2_with (first
  | (go_at_call 91; refine (HK.out _).mono ?_; rintro e w1 ⟨rfl, hb⟩; have HB1 := Lib.hid (s_trans HB0.out hb); have HX1 := Lib.hid (block_on hb HX0.out); obtain ⟨x0, x1, x2, x3, x4⟩ := cells5 HX1.out; clear hb)
  | (go_at_call 96; refine (HN.out _).mono ?_; rintro e w2 ⟨rfl, hb⟩; have HB2 := Lib.hid (s_trans HB1.out hb); have HX2 := Lib.hid (block_on hb HX1.out); obtain ⟨x0, x1, x2, x3, x4⟩ := cells5 HX2.out; clear hb))
 go_ret
 exact ⟨rfl, by first | exact HB3.out | exact HB2.out | exact HB1.out⟩

set_option maxRecDepth 100000 in
set_option maxHeartbeats 2000000 in
theorem right_k3 (x : S25) (A4 : Option Addr) (c4 : Nat) (A5 : Option Addr) (c5 : Nat) (w : World) (hin : EIn w x A4 c4 A5 c5) (m : Int) (ok : Bool) (hk : kidsB x.f0 = (m, ok)) (hok : ok = true) (hlen : (x.f4.length : Int) = m) (h0 : x.f0 = 3) (hn : x.f1 = 0) (hnb : nameB x.f2 = true) (hfs : x.f3.length ≤ 16) :
 Calls Tryz.prog 56 #[eV x A4 c4 A5 c5] w fun e w' => e = .returned (.bool (!x.f3.any (fun f => !picksB f))) ∧ Below w.heap.size w w' := by
 obtain ⟨k, n, f, fs, ks⟩ := x
 obtain ⟨l3, g3, l4, g4⟩ := hin
 dsimp only at *
 have hkids := fun w => kids_any k w
 rw [hk] at hkids
 clear hk
 have HK := Lib.hid hkids
 have HG3 := Lib.hid g3
 have HG4 := Lib.hid g4
 have hb0 : Below w.heap.size w (w.alloc (.cells #[.int .i64 k, .int .i64 n, .string f, .slice A4 fs.length c4, .slice A5 ks.length c5] 25)) := s_alloc (Below.refl _ _) _
 have hx0 : (w.alloc (.cells #[.int .i64 k, .int .i64 n, .string f, .slice A4 fs.length c4, .slice A5 ks.length c5] 25)).heap[w.heap.size]? = some (.cells #[.int .i64 k, .int .i64 n, .string f, .slice A4 fs.length c4, .slice A5 ks.length c5] 25 (0, 0)) := Array.getElem?_push_size
 have HB0 := Lib.hid hb0
 have HX0 := Lib.hid hx0
 subst hok
 have q1 : ((ks.length : Int) != m) = false := by rw [hlen]; simp
 have HLEN := Lib.hid hlen
 clear hlen
 have b1 : (k == 1) = false := by rw [h0]; rfl
 have b2 : (k == 2) = false := by rw [h0]; rfl
 have b3 : (k == 3) = true := by rw [h0]; rfl
 have n3 : (k != 3) = false := by unfold bne; rw [b3]; rfl
 clear h0
 have y0 : (n == 0) = true := by rw [hn]; rfl
 clear hn
 have hnm := fun w => name_any f w
 rw [hnb] at hnm
 have HN := Lib.hid hnm
 clear hnm hnb
 have z2 : decide ((fs.length : Int) ≤ 16) = true := decide_eq_true (by omega)
 have hfl := fun W (hb : Below w.heap.size w W) => wrongF_any W A4 c4 fs (fun f => !picksB f) (Kd.C_below HG3.out hb) l3 (by omega) (fun y _ W' _ => wrong_any y W')
 have HF := Lib.hid hfl
 clear hfl
 clear hkids hb0 hx0 g3 g4
 go_enter Tryz.func56, Tryz.ntmps56
 go_wp2_with (first
  | (go_at_call 91; refine (HK.out _).mono ?_; rintro e w1 ⟨rfl, hb⟩; have HB1 := Lib.hid (s_trans HB0.out hb); have HX1 := Lib.hid (block_on hb HX0.out); obtain ⟨x0, x1, x2, x3, x4⟩ := cells5 HX1.out; clear hb)
  | (go_at_call 96; refine (HN.out _).mono ?_; rintro e w2 ⟨rfl, hb⟩; have HB2 := Lib.hid (s_trans HB1.out hb); have HX2 := Lib.hid (block_on hb HX1.out); obtain ⟨x0, x1, x2, x3, x4⟩ := cells5 HX2.out; clear hb)
  | (go_at_call 97; refine (HF.out _ HB2.out).mono ?_; rintro e w3 ⟨rfl, hb⟩; have HB3 := Lib.hid (s_trans HB2.out hb); clear hb))
 go_ret
 exact ⟨rfl, by first | exact HB3.out | exact HB2.out | exact HB1.out⟩

set_option maxRecDepth 100000 in
set_option maxHeartbeats 2000000 in
theorem right_kn (x : S25) (A4 : Option Addr) (c4 : Nat) (A5 : Option Addr) (c5 : Nat) (w : World) (hin : EIn w x A4 c4 A5 c5) (m : Int) (ok : Bool) (hk : kidsB x.f0 = (m, ok)) (hok : ok = true) (hlen : (x.f4.length : Int) = m) (h0 : x.f0 ≠ 1 ∧ x.f0 ≠ 2 ∧ x.f0 ≠ 3) (hf : x.f2.size = 0) (hfs : x.f3.length = 0) (hn : x.f1 ≠ 0) :
 Calls Tryz.prog 56 #[eV x A4 c4 A5 c5] w fun e w' => e = .returned (.bool false) ∧ Below w.heap.size w w' := by
 obtain ⟨k, n, f, fs, ks⟩ := x
 obtain ⟨l3, g3, l4, g4⟩ := hin
 dsimp only at *
 have hkids := fun w => kids_any k w
 rw [hk] at hkids
 clear hk
 have HK := Lib.hid hkids
 have HG3 := Lib.hid g3
 have HG4 := Lib.hid g4
 have hb0 : Below w.heap.size w (w.alloc (.cells #[.int .i64 k, .int .i64 n, .string f, .slice A4 fs.length c4, .slice A5 ks.length c5] 25)) := s_alloc (Below.refl _ _) _
 have hx0 : (w.alloc (.cells #[.int .i64 k, .int .i64 n, .string f, .slice A4 fs.length c4, .slice A5 ks.length c5] 25)).heap[w.heap.size]? = some (.cells #[.int .i64 k, .int .i64 n, .string f, .slice A4 fs.length c4, .slice A5 ks.length c5] 25 (0, 0)) := Array.getElem?_push_size
 have HB0 := Lib.hid hb0
 have HX0 := Lib.hid hx0
 subst hok
 have q1 : ((ks.length : Int) != m) = false := by rw [hlen]; simp
 have HLEN := Lib.hid hlen
 clear hlen
 have e1 : f.toList = [] := (empty_iff f).2 hf
 have e2 : f.toList.isEmpty = true := by rw [e1]; rfl
 have e3 : (f.toList != []) = false := by rw [e1]; rfl
 have E1 := Lib.hid e1
 clear e1 hf
 have z1 : decide (0 < fs.length) = false := decide_eq_false (by omega)
 clear hfs
 have b1 : (k == 1) = false := beq_eq_false_iff_ne.2 h0.1
 have b2 : (k == 2) = false := beq_eq_false_iff_ne.2 h0.2.1
 have b3 : (k == 3) = false := beq_eq_false_iff_ne.2 h0.2.2
 have n3 : (k != 3) = true := by unfold bne; rw [b3]; rfl
 clear h0
 have y0 : (n == 0) = false := beq_eq_false_iff_ne.2 hn
 clear hn
 clear hkids hb0 hx0 g3 g4
 go_enter Tryz.func56, Tryz.ntmps56
 go_wp2_with (first
  | (go_at_call 91; refine (HK.out _).mono ?_; rintro e w1 ⟨rfl, hb⟩; have HB1 := Lib.hid (s_trans HB0.out hb); have HX1 := Lib.hid (block_on hb HX0.out); obtain ⟨x0, x1, x2, x3, x4⟩ := cells5 HX1.out; clear hb))
 go_ret
 exact ⟨rfl, by first | exact HB3.out | exact HB2.out | exact HB1.out⟩

set_option maxRecDepth 100000 in
set_option maxHeartbeats 2000000 in
theorem right_k (x : S25) (A4 : Option Addr) (c4 : Nat) (A5 : Option Addr) (c5 : Nat) (w : World) (hin : EIn w x A4 c4 A5 c5) (m : Int) (ok : Bool) (hk : kidsB x.f0 = (m, ok)) (hok : ok = true) (hlen : (x.f4.length : Int) = m) (h0 : x.f0 ≠ 1 ∧ x.f0 ≠ 2 ∧ x.f0 ≠ 3) (hf : x.f2.size = 0) (hfs : x.f3.length = 0) (hn : x.f1 = 0) (hm : m ≤ 3) (p : S25 → Bool) (ih : ∀ y ∈ x.f4, ∀ (A4 : Option Addr) (c4 : Nat) (A5 : Option Addr) (c5 : Nat) (W : World), EIn W y A4 c4 A5 c5 → Calls Tryz.prog 98 #[eV y A4 c4 A5 c5] W fun e w' => e = .returned (.bool (p y)) ∧ Below W.heap.size W w') :
 Calls Tryz.prog 56 #[eV x A4 c4 A5 c5] w fun e w' => e = .returned (.bool (!x.f4.any p)) ∧ Below w.heap.size w w' := by
 obtain ⟨k, n, f, fs, ks⟩ := x
 obtain ⟨l3, g3, l4, g4⟩ := hin
 dsimp only at *
 have hkids := fun w => kids_any k w
 rw [hk] at hkids
 clear hk
 have HK := Lib.hid hkids
 have HG3 := Lib.hid g3
 have HG4 := Lib.hid g4
 have hb0 : Below w.heap.size w (w.alloc (.cells #[.int .i64 k, .int .i64 n, .string f, .slice A4 fs.length c4, .slice A5 ks.length c5] 25)) := s_alloc (Below.refl _ _) _
 have hx0 : (w.alloc (.cells #[.int .i64 k, .int .i64 n, .string f, .slice A4 fs.length c4, .slice A5 ks.length c5] 25)).heap[w.heap.size]? = some (.cells #[.int .i64 k, .int .i64 n, .string f, .slice A4 fs.length c4, .slice A5 ks.length c5] 25 (0, 0)) := Array.getElem?_push_size
 have HB0 := Lib.hid hb0
 have HX0 := Lib.hid hx0
 subst hok
 have hkl : ks.length < 1000000000000 := by omega
 have q1 : ((ks.length : Int) != m) = false := by rw [hlen]; simp
 have HLEN := Lib.hid hlen
 clear hlen
 have e1 : f.toList = [] := (empty_iff f).2 hf
 have e2 : f.toList.isEmpty = true := by rw [e1]; rfl
 have e3 : (f.toList != []) = false := by rw [e1]; rfl
 have E1 := Lib.hid e1
 clear e1 hf
 have z1 : decide (0 < fs.length) = false := decide_eq_false (by omega)
 clear hfs
 have b1 : (k == 1) = false := beq_eq_false_iff_ne.2 h0.1
 have b2 : (k == 2) = false := beq_eq_false_iff_ne.2 h0.2.1
 have b3 : (k == 3) = false := beq_eq_false_iff_ne.2 h0.2.2
 have n3 : (k != 3) = true := by unfold bne; rw [b3]; rfl
 clear h0
 have y0 : (n == 0) = true := by rw [hn]; rfl
 clear hn
 have hfl := fun W (hb : Below w.heap.size w W) => kid_any W A5 c5 ks p (Kd.C_below HG4.out hb) l4 hkl (fun y hy A4 c4 A5 c5 W' _ hi => ih y hy A4 c4 A5 c5 W' hi)
 have HC := Lib.hid hfl
 clear hfl ih
 clear hkids hb0 hx0 g3 g4
 go_enter Tryz.func56, Tryz.ntmps56
 go_wp2_with (first
  | (go_at_call 91; refine (HK.out _).mono ?_; rintro e w1 ⟨rfl, hb⟩; have HB1 := Lib.hid (s_trans HB0.out hb); have HX1 := Lib.hid (block_on hb HX0.out); obtain ⟨x0, x1, x2, x3, x4⟩ := cells5 HX1.out; clear hb)
  | (go_at_call 99; refine (HC.out _ HB1.out).mono ?_; rintro e w2 ⟨rfl, hb⟩; have HB2 := Lib.hid (s_trans HB1.out hb); clear hb))
 go_ret
 exact ⟨rfl, by first | exact HB3.out | exact HB2.out | exact HB1.out⟩
end Go.Proofs.YtnaglnifpejpjaaGreatDoor.Ch

/-
  syntax.right, by induction; Deep; GoodExpr, may, Good.
-/
namespace Go.Proofs.YtnaglnifpejpjaaGreatDoor.Ch
set_option linter.unusedVariables false
set_option linter.unusedSimpArgs false
set_option linter.unnecessarySimpa false
open Go.RowKit Go.Proofs.YtnaglnifpejpjaaGreatDoorK Go.Proofs.YtnaglnifpejpjaaGreatDoor.XEvalRuns Go.Proofs.YtnaglnifpejpjaaGreatDoorW.PrintWords Go.Proofs.YtnaglnifpejpjaaGreatDoorW.PrintLast

mutual
noncomputable def rightB : S25 → Bool
 | ⟨k, n, f, fs, ks⟩ =>
   if (kidsB k).2 = false then false else if (ks.length : Int) ≠ (kidsB k).1 then false else if k ≠ 3 ∧ f.size ≠ 0 then false else if k ≠ 3 ∧ 0 < fs.length then false else
   if k = 1 then numB n else if k = 2 then boxedB n else if n ≠ 0 then false else if k = 3 then (if nameB f = false then false else if 16 < fs.length then false else !fs.any (fun f => !picksB f)) else rightL ks
noncomputable def rightL : List S25 → Bool
 | [] => true
 | x :: xs => rightB x && rightL xs
end
theorem rightL_all : ∀ l : List S25, rightL l = !l.any (fun y => !rightB y)
 | [] => by simp [rightL]
 | x :: xs => by rw [rightL, rightL_all xs, List.any_cons]; cases rightB x <;> simp
theorem kidsB_le (k : Int) : (kidsB k).1 ≤ 3 := by
 unfold kidsB
 by_cases h1 : k = 1 ∨ k = 2 ∨ k = 3
 ·rw [if_pos h1]; simp
 ·rw [if_neg h1]
  by_cases h2 : k = 6
  ·rw [if_pos h2]; simp
  ·rw [if_neg h2]
   by_cases h3 : k = 4 ∨ k = 5 ∨ k = 7 ∨ k = 8
   ·rw [if_pos h3]; simp
   ·rw [if_neg h3]
    by_cases h4 : k = 9
    ·rw [if_pos h4]; simp
    ·rw [if_neg h4]; simp
def RightAt (x : S25) : Prop := ∀ (A4 : Option Addr) (c4 : Nat) (A5 : Option Addr) (c5 : Nat) (w : World), EIn w x A4 c4 A5 c5 → Calls Tryz.prog 56 #[eV x A4 c4 A5 c5] w fun e w' => e = .returned (.bool (rightB x)) ∧ Below w.heap.size w w'
theorem kid_right (y : S25) (h : RightAt y) (A4 : Option Addr) (c4 : Nat) (A5 : Option Addr) (c5 : Nat) (w : World) (hin : EIn w y A4 c4 A5 c5) : Calls Tryz.prog 98 #[eV y A4 c4 A5 c5] w fun e w' => e = .returned (.bool (!rightB y)) ∧ Below w.heap.size w w' := by
 have hp := fun W (hb : Below w.heap.size w W) => h A4 c4 A5 c5 W (hin.below hb)
 generalize rightB y = PB at *
 have hb0 : Below w.heap.size w (w.alloc (.cells #[.int .i64 y.f0, .int .i64 y.f1, .string y.f2, .slice A4 y.f3.length c4, .slice A5 y.f4.length c5] 25)) := s_alloc (Below.refl _ _) _
 have HP := Lib.hid hp
 have HB0 := Lib.hid hb0
 clear hp hb0 hin h
 go_enter Tryz.func98, Tryz.ntmps98
 go_wp2_with (go_at_call 56; refine (HP.out _ HB0.out).mono ?_; rintro e w1 ⟨rfl, hb⟩; have HB1 := Lib.hid (s_trans HB0.out hb); clear hb)
 go_ret
 exact ⟨rfl, HB1.out⟩
theorem right_eq (x : S25) : rightB x = if (kidsB x.f0).2 = false then false else if (x.f4.length : Int) ≠ (kidsB x.f0).1 then false else if x.f0 ≠ 3 ∧ x.f2.size ≠ 0 then false else if x.f0 ≠ 3 ∧ 0 < x.f3.length then false else
 if x.f0 = 1 then numB x.f1 else if x.f0 = 2 then boxedB x.f1 else if x.f1 ≠ 0 then false else if x.f0 = 3 then (if nameB x.f2 = false then false else if 16 < x.f3.length then false else !x.f3.any (fun f => !picksB f)) else rightL x.f4 := by
 obtain ⟨k, n, f, fs, ks⟩ := x
 rw [rightB]
theorem right_step (x : S25) (ih : ∀ y ∈ x.f4, RightAt y) : RightAt x := by
 intro A4 c4 A5 c5 w hin
 have hE := right_eq x
 obtain ⟨m, ok, hk⟩ : ∃ m ok, kidsB x.f0 = (m, ok) := ⟨_, _, rfl⟩
 have hm : m ≤ 3 := by have := kidsB_le x.f0; rw [hk] at this; exact this
 rw [hk] at hE
 dsimp only at hE
 cases ok with
 | false => rw [if_pos rfl] at hE; rw [hE]; exact right_no x A4 c4 A5 c5 w hin m false hk rfl
 | true =>
   rw [if_neg (by simp)] at hE
   by_cases h1 : (x.f4.length : Int) ≠ m
   ·rw [if_pos h1] at hE; rw [hE]; exact right_len x A4 c4 A5 c5 w hin m true hk rfl h1
   ·rw [if_neg h1] at hE
    replace h1 : (x.f4.length : Int) = m := Classical.byContradiction h1
    by_cases h3 : x.f0 = 3
    ·rw [if_neg (fun h => h.1 h3), if_neg (fun h => h.1 h3), if_neg (by omega), if_neg (by omega)] at hE
     by_cases hn : x.f1 ≠ 0
     ·rw [if_pos hn] at hE; rw [hE]; exact right_k3n x A4 c4 A5 c5 w hin m true hk rfl h1 h3 hn
     ·rw [if_neg hn, if_pos h3] at hE
      replace hn : x.f1 = 0 := Classical.byContradiction hn
      cases hnb : nameB x.f2 with
      | false => rw [hnb, if_pos rfl] at hE; rw [hE]; exact right_k3name x A4 c4 A5 c5 w hin m true hk rfl h1 h3 hn hnb
      | true =>
        rw [hnb, if_neg (by simp)] at hE
        by_cases h16 : 16 < x.f3.length
        ·rw [if_pos h16] at hE; rw [hE]; exact right_k3many x A4 c4 A5 c5 w hin m true hk rfl h1 h3 hn hnb h16
        ·rw [if_neg h16] at hE; rw [hE]; exact right_k3 x A4 c4 A5 c5 w hin m true hk rfl h1 h3 hn hnb (by omega)
    ·by_cases hf : x.f2.size ≠ 0
     ·rw [if_pos ⟨h3, hf⟩] at hE; rw [hE]; exact right_field x A4 c4 A5 c5 w hin m true hk rfl h1 h3 hf
     ·rw [if_neg (fun h => hf h.2)] at hE
      replace hf : x.f2.size = 0 := Classical.byContradiction hf
      by_cases hfs : 0 < x.f3.length
      ·rw [if_pos ⟨h3, hfs⟩] at hE; rw [hE]; exact right_filt x A4 c4 A5 c5 w hin m true hk rfl h1 h3 hf hfs
      ·rw [if_neg (fun h => hfs h.2)] at hE
       replace hfs : x.f3.length = 0 := by omega
       by_cases k1 : x.f0 = 1
       ·rw [if_pos k1] at hE; rw [hE]; exact right_k1 x A4 c4 A5 c5 w hin m true hk rfl h1 k1 hf hfs
       ·rw [if_neg k1] at hE
        by_cases k2 : x.f0 = 2
        ·rw [if_pos k2] at hE; rw [hE]; exact right_k2 x A4 c4 A5 c5 w hin m true hk rfl h1 k2 hf hfs
        ·rw [if_neg k2] at hE
         by_cases hn : x.f1 ≠ 0
         ·rw [if_pos hn] at hE; rw [hE]; exact right_kn x A4 c4 A5 c5 w hin m true hk rfl h1 ⟨k1, k2, h3⟩ hf hfs hn
         ·rw [if_neg hn, if_neg h3, rightL_all] at hE
          replace hn : x.f1 = 0 := Classical.byContradiction hn
          rw [hE]
          exact right_k x A4 c4 A5 c5 w hin m true hk rfl h1 ⟨k1, k2, h3⟩ hf hfs hn hm (fun y => !rightB y) (fun y hy A4 c4 A5 c5 W hi => kid_right y (ih y hy) A4 c4 A5 c5 W hi)
theorem kid_lt {x y : S25} (h : y ∈ x.f4) : SizeOf.sizeOf y < SizeOf.sizeOf x := by
 obtain ⟨k, n, f, fs, ks⟩ := x
 have := List.sizeOf_lt_of_mem h
 simp at this ⊢
 omega
theorem right_any : ∀ (n : Nat) (x : S25), SizeOf.sizeOf x < n → RightAt x
 | 0, x, h => by omega
 | n + 1, x, h => right_step x (fun y hy => right_any n y (by have := kid_lt hy; omega))
theorem right_at (x : S25) : RightAt x := right_any (SizeOf.sizeOf x + 1) x (Nat.lt_succ_self _)
/-! ### how deep it is -/
mutual
def depthB : S25 → Nat → Int
 | ⟨_, _, _, _, ks⟩, m => depthL ks m 1
def depthL : List S25 → Nat → Int → Int
 | [], _, d => d
 | x :: xs, m, d => if m = 0 then d else depthL xs m (mx d (1 + depthB x (m - 1)))
end
theorem mx_ge (a b : Int) : a ≤ mx a b ∧ b ≤ mx a b ∧ (mx a b = a ∨ mx a b = b) := by unfold mx; split <;> omega
mutual
theorem depthB_bd : ∀ (x : S25) (m : Nat), 1 ≤ depthB x m ∧ depthB x m ≤ m + 1
 | ⟨_, _, _, _, ks⟩, m => by rw [depthB]; exact depthL_bd ks m 1 (by omega) (by omega)
theorem depthL_bd : ∀ (l : List S25) (m : Nat) (d : Int), 1 ≤ d → d ≤ m + 1 → 1 ≤ depthL l m d ∧ depthL l m d ≤ m + 1
 | [], m, d, h1, h2 => by rw [depthL]; exact ⟨h1, h2⟩
 | x :: xs, m, d, h1, h2 => by
   rw [depthL]
   by_cases hm : m = 0
   ·rw [if_pos hm]; exact ⟨h1, h2⟩
   ·rw [if_neg hm]
    have hb := depthB_bd x (m - 1)
    have hq := mx_ge d (1 + depthB x (m - 1))
    exact depthL_bd xs m _ (by omega) (by omega)
end
theorem rd41 (L : List S25) (i : Nat) : rd_T25 L (i : Int) = L.getD i z25 := by unfold rd_T25; rw [Int.toNat_natCast]
theorem drop_d {α : Type} (l : List α) (i : Nat) (h : i < l.length) (d : α) : l.drop i = l.getD i d :: l.drop (i + 1) := by
 rw [List.drop_eq_getElem_cons h, List.getD_eq_getElem?_getD, List.getElem?_eq_getElem h]
 rfl
theorem wrapS (i : Nat) (h : i < 1000000000000) : wrap64 ((i : Int) + 1) = ((i + 1 : Nat) : Int) := by unfold wrap64; omega
theorem up {α : Type} {F : Nat → Option α} (hm : ∀ k, LeO (F k) (F (k + 1))) {a : Nat} {r : α} (h : F a = some r) : ∀ {k : Nat}, a ≤ k → F k = some r := by
 intro k hk
 obtain ⟨d, rfl⟩ : ∃ d, k = a + d := ⟨k - a, by omega⟩
 clear hk
 induction d with
 | zero => exact h
 | succ d ih => exact hm _ _ ih
theorem depth_up {x : S25} {m : Int} {r : Int} {a k : Nat} (h : syntax_depth.f a x.f0 x.f1 x.f2 x.f3 x.f4 m = some r) (hk : a ≤ k) : syntax_depth.f k x.f0 x.f1 x.f2 x.f3 x.f4 m = some r := up (fun k => syntax_depth.mono _ _ _ _ _ _ k) h hk
theorem depthl_up {m d : Int} {l : List S25} {n i : Int} {r : Int} {a k : Nat} (h : syntax_depth.l0 a m d l n i = some r) (hk : a ≤ k) : syntax_depth.l0 k m d l n i = some r := up (fun k => (syntax_depth.mono_l k).2 _ _ _ _ _) h hk
theorem wrapD {r : Int} {m : Nat} (h1 : 1 ≤ r) (h2 : r ≤ m + 1) (hm : m ≤ 100) : wrap64 (1 + r) = 1 + r := by unfold wrap64; omega
theorem wrapM {m : Nat} (h : m ≠ 0) (hm : m ≤ 100) : wrap64 ((m : Int) - 1) = ((m - 1 : Nat) : Int) := by unfold wrap64; omega
def DepthAt (x : S25) : Prop := ∀ m : Nat, m ≤ 100 → ∃ a, syntax_depth.f a x.f0 x.f1 x.f2 x.f3 x.f4 (m : Int) = some (depthB x m)
theorem depth_l (l : List S25) (hl : l.length < 1000000000000) (hx : ∀ x ∈ l, DepthAt x) (m : Nat) (hm : m ≤ 100) : ∀ (q i : Nat) (d : Int), i + q = l.length → ∃ a, syntax_depth.l0 a (m : Int) d l (l.length : Int) (i : Int) = some (depthL (l.drop i) m d)
 | 0, i, d, h => ⟨1, by rw [syntax_depth.l0, if_neg (by omega), List.drop_eq_nil_of_le (by omega), depthL]⟩
 | q + 1, i, d, h => by
   have hi : i < l.length := by omega
   rw [drop_d l i hi z25, depthL]
   by_cases hm0 : m = 0
   ·refine ⟨1, ?_⟩
    rw [syntax_depth.l0, if_pos (by omega), if_pos (by omega), if_pos (by omega), if_pos (by omega), if_pos hm0]
   ·rw [if_neg hm0]
    have hy : l.getD i z25 ∈ l := by rw [List.getD_eq_getElem?_getD, List.getElem?_eq_getElem hi]; exact List.getElem_mem hi
    obtain ⟨a1, h1⟩ := hx _ hy (m - 1) (by omega)
    obtain ⟨a2, h2⟩ := depth_l l hl hx m hm q (i + 1) (mx d (1 + depthB (l.getD i z25) (m - 1))) (by omega)
    have hb := depthB_bd (l.getD i z25) (m - 1)
    refine ⟨max a1 a2 + 1, ?_⟩
    rw [syntax_depth.l0, if_pos (by omega), if_pos (by omega), if_pos (by omega), if_neg (by omega), rd41, wrapM hm0 hm, depth_up h1 (Nat.le_max_left _ _), Option.bind_some, wrapS i (by omega), wrapD hb.1 hb.2 (by omega)]
    exact depthl_up h2 (Nat.le_max_right _ _)
mutual
/-- No list in it is longer than any memory. -/
def Small : S25 → Prop
 | ⟨_, _, _, fs, ks⟩ => fs.length < 1000000000000 ∧ ks.length < 1000000000000 ∧ SmallL ks
def SmallL : List S25 → Prop
 | [] => True
 | x :: xs => Small x ∧ SmallL xs
end
theorem smallL_mem : ∀ {l : List S25}, SmallL l → ∀ y ∈ l, Small y
 | x :: xs, h, y, hy => by
   rw [SmallL] at h
   rcases List.mem_cons.1 hy with e | hy
   ·rw [e]; exact h.1
   ·exact smallL_mem h.2 y hy
theorem Small.kids {x : S25} (h : Small x) : x.f4.length < 1000000000000 ∧ ∀ y ∈ x.f4, Small y := by
 obtain ⟨k, n, f, fs, ks⟩ := x
 rw [Small] at h
 exact ⟨h.2.1, smallL_mem h.2.2⟩
theorem depth_n : ∀ (n : Nat) (x : S25), SizeOf.sizeOf x < n → Small x → DepthAt x
 | 0, x, h, _ => by omega
 | n + 1, x, h, hs => fun m hm => by
   obtain ⟨a, ha⟩ := depth_l x.f4 hs.kids.1 (fun y hy => depth_n n y (by have := kid_lt hy; omega) (hs.kids.2 y hy)) m hm x.f4.length 0 1 (by omega)
   refine ⟨a + 1, ?_⟩
   rw [show ((0 : Nat) : Int) = 0 from rfl, List.drop_zero] at ha
   obtain ⟨k, n, f, fs, ks⟩ := x
   rw [syntax_depth.f, depthB]
   exact ha
theorem deep_any (x : S25) (hs : Small x) (A4 : Option Addr) (c4 : Nat) (A5 : Option Addr) (c5 : Nat) (w : World) (hin : EIn w x A4 c4 A5 c5) : Calls Tryz.prog 55 #[eV x A4 c4 A5 c5] w fun e w' => e = .returned (.int .i64 (depthB x 64)) ∧ Below w.heap.size w w' := by
 obtain ⟨a, ha⟩ := depth_n (SizeOf.sizeOf x + 1) x (Nat.lt_succ_self _) hs 64 (by omega)
 refine syntax_Deep.calls a x.f0 x.f1 x.f2 A4 c4 x.f3 A5 c5 x.f4 _ w hin.c3 hin.l3 hin.c4 hin.l4 ?_
 unfold syntax_Deep.f
 rw [show (64 : Int) = ((64 : Nat) : Int) from rfl, ha]
 rfl
noncomputable def goodB (x : S25) : Bool := decide (depthB x 64 ≤ 64) && rightB x
set_option maxRecDepth 100000 in
set_option maxHeartbeats 2000000 in
theorem goodE_any (x : S25) (hs : Small x) (A4 : Option Addr) (c4 : Nat) (A5 : Option Addr) (c5 : Nat) (w : World) (hin : EIn w x A4 c4 A5 c5) : Calls Tryz.prog 26 #[eV x A4 c4 A5 c5] w fun e w' => e = .returned (.bool (goodB x)) ∧ Below w.heap.size w w' := by
 have hd := fun W (hb : Below w.heap.size w W) => deep_any x hs A4 c4 A5 c5 W (hin.below hb)
 have hr := fun W (hb : Below w.heap.size w W) => right_at x A4 c4 A5 c5 W (hin.below hb)
 unfold goodB
 obtain ⟨k, n, f, fs, ks⟩ := x
 generalize depthB ⟨k, n, f, fs, ks⟩ 64 = DB at *
 generalize rightB ⟨k, n, f, fs, ks⟩ = RB at *
 have hb0 : Below w.heap.size w (w.alloc (.cells #[.int .i64 k, .int .i64 n, .string f, .slice A4 fs.length c4, .slice A5 ks.length c5] 25)) := s_alloc (Below.refl _ _) _
 have hx0 : (w.alloc (.cells #[.int .i64 k, .int .i64 n, .string f, .slice A4 fs.length c4, .slice A5 ks.length c5] 25)).heap[w.heap.size]? = some (.cells #[.int .i64 k, .int .i64 n, .string f, .slice A4 fs.length c4, .slice A5 ks.length c5] 25 (0, 0)) := Array.getElem?_push_size
 have HD := Lib.hid hd
 have HR := Lib.hid hr
 have HB0 := Lib.hid hb0
 have HX0 := Lib.hid hx0
 clear hd hr hb0 hx0 hin hs
 by_cases h64 : DB ≤ 64
 ·have d1 : decide (DB ≤ 64) = true := decide_eq_true h64
  rw [d1]
  go_enter Tryz.func26, Tryz.ntmps26
  go_wp2_with (first
   | (go_at_call 55; refine (HD.out _ HB0.out).mono ?_; rintro e w1 ⟨rfl, hb⟩; have HB1 := Lib.hid (s_trans HB0.out hb); obtain ⟨x0, x1, x2, x3, x4⟩ := cells5 (block_on hb HX0.out); clear hb)
   | (go_at_call 56; refine (HR.out _ HB1.out).mono ?_; rintro e w2 ⟨rfl, hb⟩; have HB2 := Lib.hid (s_trans HB1.out hb); clear hb))
  go_ret
  exact ⟨rfl, HB2.out⟩
 ·have d1 : decide (DB ≤ 64) = false := decide_eq_false h64
  rw [d1]
  go_enter Tryz.func26, Tryz.ntmps26
  go_wp2_with (go_at_call 55; refine (HD.out _ HB0.out).mono ?_; rintro e w1 ⟨rfl, hb⟩; have HB1 := Lib.hid (s_trans HB0.out hb); obtain ⟨x0, x1, x2, x3, x4⟩ := cells5 (block_on hb HX0.out); clear hb)
  go_ret
  exact ⟨rfl, HB1.out⟩
end Go.Proofs.YtnaglnifpejpjaaGreatDoor.Ch

/-
  checker.Names: fields, tags, filters.
-/
namespace Go.Proofs.YtnaglnifpejpjaaGreatDoor.Ch
set_option linter.unusedVariables false
set_option linter.unusedSimpArgs false
set_option linter.unnecessarySimpa false
open Go.RowKit Go.Proofs.YtnaglnifpejpjaaGreatDoorK Go.Proofs.YtnaglnifpejpjaaGreatDoor.XEvalRuns Go.Proofs.YtnaglnifpejpjaaGreatDoorW.PrintWords Go.Proofs.YtnaglnifpejpjaaGreatDoorW.PrintLast

def lst (l : List (List UInt8)) : List ByteArray := l.map (fun b => ⟨b.toArray⟩)
def fieldsL : List ByteArray := lst [[98, 97, 115, 101], [116, 97, 120], [111, 117, 116], [105, 110]]
def tagsL : List ByteArray := lst [[116, 114, 101, 97, 116], [114, 97, 116, 101], [115, 117, 112, 112, 108, 121], [115, 97, 108, 101], [108, 97, 116, 101], [109, 105, 120, 101, 100]]
def StrsAt (l : List ByteArray) (W : World) (g : Nat) : Prop := g < W.heap.size ∧ ∀ j, j < l.length → W.cell? ⟨g, 0 + j, none⟩ = some (.string (l.getD j ByteArray.empty))
theorem StrsAt.below {l : List ByteArray} {W W' : World} {g : Nat} (h : StrsAt l W g) (hb : Below W.heap.size W W') : StrsAt l W' g := ⟨Nat.lt_of_lt_of_le h.1 hb.size, fun j hj => (hb.cell (p := ⟨g, 0 + j, none⟩) h.1).trans (h.2 j hj)⟩
theorem block_cell {W : World} {g : Nat} {C : Array Value} {t : TypeId} (h : W.heap[g]? = some (.cells C t (0, 0))) (j : Nat) : W.cell? ⟨g, j, none⟩ = C[j]? := by simp [World.cell?, h]
theorem strs_new (w : World) (l : List ByteArray) : StrsAt l (w.alloc (.cells (l.map Value.string).toArray 9)) w.heap.size := by
 have h : (w.alloc (.cells (l.map Value.string).toArray 9)).heap[w.heap.size]? = some (.cells (l.map Value.string).toArray 9 (0, 0)) := Array.getElem?_push_size
 refine ⟨by simp, fun j hj => ?_⟩
 rw [block_cell h, Nat.zero_add]
 simp [List.getD_eq_getElem?_getD, List.getElem?_eq_getElem hj]
theorem fields_any (w : World) : Calls Tryz.prog 124 #[] w fun e w' => ∃ g, e = .returned (.slice (some ⟨g, 0, none⟩) 4 4) ∧ StrsAt fieldsL w' g ∧ Below w.heap.size w w' := by
 go_enter Tryz.func124, Tryz.ntmps124
 go_wp2
 go_ret
 exact ⟨_, rfl, strs_new w fieldsL, s_alloc (Below.refl _ _) _⟩
theorem tags_any (w : World) : Calls Tryz.prog 123 #[] w fun e w' => ∃ g, e = .returned (.slice (some ⟨g, 0, none⟩) 6 6) ∧ StrsAt tagsL w' g ∧ Below w.heap.size w w' := by
 go_enter Tryz.func123, Tryz.ntmps123
 go_wp2
 go_ret
 exact ⟨_, rfl, strs_new w tagsL, s_alloc (Below.refl _ _) _⟩
def isField (s : ByteArray) : Bool := Lib.containsS (fieldsL.take 4) s
def isTag (s : ByteArray) : Bool := Lib.containsS (tagsL.take 6) s
theorem has_field (W : World) (g : Nat) (h : StrsAt fieldsL W g) (s : ByteArray) :
 Calls Tryz.prog 122 #[.slice (some ⟨g, 0, none⟩) 4 4, .string s] W fun e w' => e = .returned (.bool (isField s)) ∧ W = w' :=
 (Tryz.slices_Contains_string g 0 4 4 fieldsL s W (by decide) (by omega) h.2).mono fun _ _ ⟨h1, h2⟩ => ⟨h1, h2.symm⟩
theorem has_tag (W : World) (g : Nat) (h : StrsAt tagsL W g) (s : ByteArray) :
 Calls Tryz.prog 122 #[.slice (some ⟨g, 0, none⟩) 6 6, .string s] W fun e w' => e = .returned (.bool (isTag s)) ∧ W = w' :=
 (Tryz.slices_Contains_string g 0 6 6 tagsL s W (by decide) (by omega) h.2).mono fun _ _ ⟨h1, h2⟩ => ⟨h1, h2.symm⟩
set_option maxRecDepth 100000 in
set_option maxHeartbeats 400000 in
theorem strange_any (f : S70) (w : World) : Calls Tryz.prog 121 #[fV f] w fun e w' => e = .returned (.bool (!isTag f.f0)) ∧ Below w.heap.size w w' := by
 have hb0 : Below w.heap.size w (w.alloc (.cells #[.string f.f0, .int .u8 f.f1, .int .i64 f.f2] 70)) := s_alloc (Below.refl _ _) _
 have hx0 : (w.alloc (.cells #[.string f.f0, .int .u8 f.f1, .int .i64 f.f2] 70)).heap[w.heap.size]? = some (.cells #[.string f.f0, .int .u8 f.f1, .int .i64 f.f2] 70 (0, 0)) := Array.getElem?_push_size
 obtain ⟨x0, x1, x2⟩ := cells3 hx0
 have ht := fun W g h => has_tag W g h f.f0
 generalize isTag f.f0 = TB at *
 have HT := Lib.hid ht
 have HB0 := Lib.hid hb0
 have HX0 := Lib.hid hx0
 clear hb0 hx0 ht
 go_enter Tryz.func121, Tryz.ntmps121
 go_wp2
 go_region_with (first
  | (go_at_call 123; refine (tags_any _).mono ?_; rintro e w1 ⟨g, rfl, hst, hb⟩; have HST := Lib.hid hst; have hb1 : Below (w.alloc (.cells #[.string f.f0, .int .u8 f.f1, .int .i64 f.f2] 70)).heap.size (w.alloc (.cells #[.string f.f0, .int .u8 f.f1, .int .i64 f.f2] 70)) w1 := s_trans (by first | exact Below.refl _ _ | exact s_drew (Below.refl _ _) | exact s_drewN (Below.refl _ _) _) hb; have HB1 := Lib.hid (s_trans HB0.out hb1); obtain ⟨x0, x1, x2⟩ := cells3 (block_on hb1 HX0.out); clear hb hb1 hst)
  | (go_at_call 122; refine (HT.out _ g (HST.out.below (by first | exact Below.refl _ _ | exact s_drew (Below.refl _ _) | exact s_drewN (Below.refl _ _) _))).mono ?_; rintro e w2 ⟨rfl, rfl⟩))
 all_goals
  go_wp2
  go_ret
  exact ⟨rfl, by first | exact HB1.out | exact s_drew HB1.out | exact s_drewN HB1.out _⟩
end Go.Proofs.YtnaglnifpejpjaaGreatDoor.Ch

/-
  checker.Names.
-/
namespace Go.Proofs.YtnaglnifpejpjaaGreatDoor.Ch
set_option linter.unusedVariables false
set_option linter.unusedSimpArgs false
set_option linter.unnecessarySimpa false
open Go.RowKit Go.Proofs.YtnaglnifpejpjaaGreatDoorK Go.Proofs.YtnaglnifpejpjaaGreatDoor.XEvalRuns Go.Proofs.YtnaglnifpejpjaaGreatDoorW.PrintWords Go.Proofs.YtnaglnifpejpjaaGreatDoorW.PrintLast

mutual
def namesB : S25 → Bool
 | ⟨k, _, f, fs, ks⟩ => if k = 3 then isField f && !fs.any (fun f => !isTag f.f0) else namesL ks
def namesL : List S25 → Bool
 | [] => true
 | x :: xs => namesB x && namesL xs
end

set_option maxRecDepth 100000 in
set_option maxHeartbeats 2000000 in
theorem strangeF_idx (w : World) (A : Option Addr) (c : Nat) (l : List S70) (p : S70 → Bool) (hr : Kd.C k70 w A l.length l) (hc : l.length ≤ c) (hl : l.length < 1000000000000) (hp : ∀ x ∈ l, ∀ (W : World), Below w.heap.size w W → Calls Tryz.prog 121 #[fV x] W fun e w' => e = .returned (.bool (p x)) ∧ Below W.heap.size W w') :
 Calls Tryz.prog 132 #[.slice A l.length c, .func (.func 121) #[] #[]] w fun e w' => ∃ i : Int, e = .returned (.int .i64 i) ∧ (i < 0 ↔ l.any p = false) ∧ -1 ≤ i ∧ i < l.length ∧ Below w.heap.size w w' := by
 have HR := Lib.hid hr
 have HP := Lib.hid hp
 clear hr hp
 go_enter Tryz.func132, Tryz.ntmps132
 go_wp2
 go_loopw [8] (fun i wr => ∃ k : Nat, k ≤ l.length ∧ i = .int .i64 k ∧ Hid ((l.take k).any p = false) ∧ Hid (Below w.heap.size w wr)) (fun i _ => l.length - (intOf i).toNat)
 case atStart => exact ⟨0, Nat.zero_le _, rfl, by rw [List.take_zero]; rfl, Below.refl _ _⟩
 case round =>
  obtain ⟨k, hk, rfl, HA, HB⟩ := hrel
  by_cases hlt : k < l.length
  ·obtain ⟨ad0, e0, q0, q1, q2⟩ := at_T70 (Kd.C_below HR.out HB.out) (k : Int) (by omega) (by omega)
   have hy : rd_T70 l (k : Int) = l[k] := by unfold rd_T70; rw [Int.toNat_natCast, List.getD_eq_getElem?_getD, List.getElem?_eq_getElem hlt]; rfl
   have htk : (l.take (k + 1)).any p = p l[k] := by
    rw [List.take_succ_eq_append_getElem hlt, List.any_append, HA.out, Bool.false_or, List.any_cons, List.any_nil, Bool.or_false]
   have hmem := List.getElem_mem hlt
   have hyes : p l[k] = true → l.any p = true := fun e => List.any_eq_true.2 ⟨_, hmem, e⟩
   rw [hy] at q0 q1 q2
   rw [Int.toNat_natCast] at q0 q1 q2
   cases e0
   generalize l[k] = y at *
   clear hy
   have HTK := Lib.hid htk
   have HYES := Lib.hid hyes
   clear htk hyes
   skip
   cases hpy : p y with
   | true =>
     have hp1 := fun W hb => HP.out y hmem W hb
     rw [hpy] at hp1
     have HP1 := Lib.hid hp1
     have HPY := Lib.hid hpy
     clear hp1 hpy
     go_wp2_with (go_at_call 121; refine (HP1.out _ HB.out).mono ?_; rintro e w2 ⟨rfl, hb⟩; have HB2 := Lib.hid (s_trans HB.out hb); clear hb)
     go_ret
     refine ⟨k, rfl, ⟨fun h => by omega, fun h => ?_⟩, by omega, by omega, HB2.out⟩
     rw [HYES.out HPY.out] at h; cases h
   | false =>
     have hp1 := fun W hb => HP.out y hmem W hb
     rw [hpy] at hp1
     have HP1 := Lib.hid hp1
     have HPY := Lib.hid hpy
     clear hp1 hpy
     go_wp2_with (go_at_call 121; refine (HP1.out _ HB.out).mono ?_; rintro e w2 ⟨rfl, hb⟩; have HB2 := Lib.hid (s_trans HB.out hb); clear hb)
     go_roundw
     case rel => exact ⟨k + 1, by omega, by go_num, Lib.hid (HTK.out.trans HPY.out), HB2⟩
     case measure => simp [intOf]; omega
  ·obtain rfl : k = l.length := by omega
   go_wp2
   go_ret
   refine ⟨-1, rfl, ⟨fun _ => ?_, fun _ => by omega⟩, by omega, by omega, HB.out⟩
   have := HA.out
   rwa [List.take_length] at this
set_option maxRecDepth 100000 in
theorem strangeF_any (w : World) (A : Option Addr) (c : Nat) (l : List S70) (p : S70 → Bool) (hr : Kd.C k70 w A l.length l) (hc : l.length ≤ c) (hl : l.length < 1000000000000) (hp : ∀ x ∈ l, ∀ (W : World), Below w.heap.size w W → Calls Tryz.prog 121 #[fV x] W fun e w' => e = .returned (.bool (p x)) ∧ Below W.heap.size W w') :
 Calls Tryz.prog 97 #[.slice A l.length c, .func (.func 121) #[] #[]] w fun e w' => e = .returned (.bool (l.any p)) ∧ Below w.heap.size w w' := by
 have hi := strangeF_idx w A c l p hr hc hl hp
 have HI := Lib.hid hi
 clear hi hr hp
 cases ha : l.any p with
 | true =>
   have HA := Lib.hid ha
   clear ha
   go_enter Tryz.func97, Tryz.ntmps97
   go_wp2_with (go_at_call 132; refine HI.out.mono ?_; rintro e w2 ⟨i, rfl, h1, h2, h3, hb⟩; have hge : (0 : Int) ≤ i := (by have := HA.out; rw [this] at h1; simp at h1; exact h1); have hd : decide ((0 : Int) ≤ i) = true := decide_eq_true hge; have HB2 := Lib.hid hb; clear hb h1)
   go_ret
   exact ⟨rfl, HB2.out⟩
 | false =>
   have HA := Lib.hid ha
   clear ha
   go_enter Tryz.func97, Tryz.ntmps97
   go_wp2_with (go_at_call 132; refine HI.out.mono ?_; rintro e w2 ⟨i, rfl, h1, h2, h3, hb⟩; have hge : ¬ (0 : Int) ≤ i := (by have := HA.out; rw [this] at h1; simp at h1; omega); have hd : decide ((0 : Int) ≤ i) = false := decide_eq_false hge; have HB2 := Lib.hid hb; clear hb h1)
   go_ret
   exact ⟨rfl, HB2.out⟩

def NamesAt (x : S25) : Prop := ∀ (A4 : Option Addr) (c4 : Nat) (A5 : Option Addr) (c5 : Nat) (w : World), EIn w x A4 c4 A5 c5 → Calls Tryz.prog 80 #[eV x A4 c4 A5 c5] w fun e w' => e = .returned (.bool (namesB x)) ∧ Below w.heap.size w w'
set_option maxRecDepth 100000 in
set_option maxHeartbeats 4000000 in
theorem names_step (x : S25) (hs : Small x) (ih : ∀ y ∈ x.f4, NamesAt y) : NamesAt x := by
 intro A4 c4 A5 c5 w hin
 obtain ⟨k, n, f, fs, ks⟩ := x
 obtain ⟨l3, g3, l4, g4⟩ := hin
 rw [Small] at hs
 dsimp only at *
 rw [namesB]
 have hb0 : Below w.heap.size w (w.alloc (.cells #[.int .i64 k, .int .i64 n, .string f, .slice A4 fs.length c4, .slice A5 ks.length c5] 25)) := s_alloc (Below.refl _ _) _
 have hx0 : (w.alloc (.cells #[.int .i64 k, .int .i64 n, .string f, .slice A4 fs.length c4, .slice A5 ks.length c5] 25)).heap[w.heap.size]? = some (.cells #[.int .i64 k, .int .i64 n, .string f, .slice A4 fs.length c4, .slice A5 ks.length c5] 25 (0, 0)) := Array.getElem?_push_size
 have HB0 := Lib.hid hb0
 have HX0 := Lib.hid hx0
 have HG4 := Lib.hid g4
 by_cases h3 : k = 3
 ·rw [if_pos h3]
  have b3 : (k == 3) = true := by rw [h3]; rfl
  subst h3
  have hst := fun W (hb : Below w.heap.size w W) => strangeF_any W A4 c4 fs (fun f => !isTag f.f0) (Kd.C_below g3 hb) l3 hs.1 (fun y _ W' _ => strange_any y W')
  have hf := fun W g h => has_field W g h f
  generalize fs.any (fun f => !isTag f.f0) = SB at *
  obtain ⟨x0, x1, x2, x3, x4⟩ := cells5 hx0
  have HST := Lib.hid hst
  clear hst hs g3 g4 ih hb0 hx0 b3
  cases hfb : isField f
  ·rw [hfb] at hf
   have HF := Lib.hid hf
   clear hf hfb
   go_enter Tryz.func80, Tryz.ntmps80
   go_upto_region 3 with fail
   obtain ⟨w0, hw0⟩ : ∃ W : World, W = w.alloc (.cells #[.int .i64 3, .int .i64 n, .string f, .slice A4 fs.length c4, .slice A5 ks.length c5] 25) := ⟨_, rfl⟩
   rw [← hw0] at HB0 HX0 x2 x3
   rw [← hw0]
   clear hw0 x0 x1 x4
   refine start_ (n := 12) (S := fun w' => w'.cell? ⟨w.heap.size, 2, none⟩ = some (.string f) ∧ w'.cell? ⟨w.heap.size, 3, none⟩ = some (.slice A4 fs.length c4)) (ds := []) #[false, false, false, false, false, false, false, false, false, false, false, false] (by kernel_rfl) rfl rfl ⟨x2, x3⟩ (fun hHeld => ?_)
   obtain ⟨wd, hwd⟩ : ∃ W, W = w0.drew := ⟨_, rfl⟩
   rw [← hwd] at hHeld
   rw [← hwd]
   have hdr : Below w0.heap.size w0 wd := by rw [hwd]; exact s_drew (Below.refl _ _)
   have HBd := Lib.hid (s_trans HB0.out hdr)
   have HXd := Lib.hid (block_on hdr HX0.out)
   clear hwd hdr
   refine pure_ (i := 1) (N := some 10) (v := ?_) (a' := ?_) #[false, true, false, false, false, false, false, false, false, false, false, false] rfl rfl (by kernel_rfl) (fun _ _ _ h => h) (Or.inl ⟨by rfl, ?_⟩) ?_ ?_
   rotate_left
   ·intro w'
    go_simp
    with_reducible rfl
   rotate_left
   ·simp only [Act.put, List.setIfInBounds_toArray, List.set_cons_zero, List.set_cons_succ, i64_w, i32_w]
    rfl
   refine take_ (i := 2) (N := some 11) (v := ?_) (a' := ?_) #[false, true, true, false, false, false, false, false, false, false, false, false] rfl rfl (by kernel_rfl) (fun _ _ _ h => h) (Or.inl ⟨by rfl, ?_⟩) hHeld ?_ ?_
   rotate_left
   ·rintro w' ⟨s0, s1⟩
    go_simp
    with_reducible rfl
   rotate_left
   ·simp only [Act.put, List.setIfInBounds_toArray, List.set_cons_zero, List.set_cons_succ, i64_w, i32_w]
    rfl
   refine one_ (i := 0) (N := some 9) #[true, true, true, false, false, false, false, false, false, false, false, false] rfl rfl (by kernel_rfl) (by decide) (fun K hK => ?_)
   refine goes_ Tryz.func124 (by kernel_rfl) rfl #[] (by rfl) rfl rfl (by simp only [List.map_toArray, List.map_cons, List.map_nil]) ?_
   with_reducible refine (fields_any _).mono ?_
   rintro e w1 ⟨g, rfl, hst, hb⟩
   refine ⟨_, rfl, ?_⟩
   have HSA := Lib.hid hst
   have HX1 := Lib.hid (block_on hb HXd.out)
   have HB1 := Lib.hid (s_trans HBd.out hb)
   have hz := cells5 HX1.out
   clear hb hst
   refine hK.out _ _ ⟨hz.2.2.1, hz.2.2.2.1⟩ (fun hHeld => ?_)
   clear hK K
   refine norm_ (a' := ?_) ?_ ?_
   rotate_left
   ·show Act.put _ (some 9) _ = _
    simp only [Act.put, List.setIfInBounds_toArray, List.set_cons_zero, List.set_cons_succ, i64_w, i32_w]
    rfl
   refine one_ (i := 3) (N := some 12) #[true, true, true, true, false, false, false, false, false, false, false, false] rfl rfl (by kernel_rfl) (by decide) (fun K hK => ?_)
   refine goes_ Tryz.func122 (by kernel_rfl) rfl #[.slice (some ⟨g, 0, none⟩) 4 4, .string f] (by rfl) rfl rfl (by simp only [List.map_toArray, List.map_cons, List.map_nil]; rfl) ?_
   with_reducible refine (HF.out _ g HSA.out).mono ?_
   rintro e w2 ⟨rfl, rfl⟩
   refine ⟨_, rfl, ?_⟩
   refine hK.out _ _ ⟨hz.2.2.1, hz.2.2.2.1⟩ (fun hHeld => ?_)
   clear hK K
   refine norm_ (a' := ?_) ?_ ?_
   rotate_left
   ·show Act.put _ (some 12) _ = _
    simp only [Act.put, List.setIfInBounds_toArray, List.set_cons_zero, List.set_cons_succ, i64_w, i32_w]
    rfl
   refine pure_ (i := 4) (N := some 13) (v := ?_) (a' := ?_) #[true, true, true, true, true, false, false, false, false, false, false, false] rfl rfl (by kernel_rfl) (fun _ _ _ h => h) (Or.inl ⟨by rfl, ?_⟩) ?_ ?_
   rotate_left
   ·intro w'
    go_simp
    with_reducible rfl
   rotate_left
   ·simp only [Act.put, List.setIfInBounds_toArray, List.set_cons_zero, List.set_cons_succ, i64_w, i32_w]
    rfl
   refine pure_ (i := 5) (N := some 14) (v := undef) (a' := ?_) #[true, true, true, true, true, true, false, false, false, false, false, false] rfl rfl (by kernel_rfl) (fun _ _ _ h => h) (Or.inr ⟨by rfl, rfl⟩) ?_ ?_
   rotate_left
   ·simp only [Act.put, List.setIfInBounds_toArray, List.set_cons_zero, List.set_cons_succ, i64_w, i32_w]
    rfl
   refine pure_ (i := 6) (N := some 15) (v := undef) (a' := ?_) #[true, true, true, true, true, true, true, false, false, false, false, false] rfl rfl (by kernel_rfl) (fun _ _ _ h => h) (Or.inr ⟨by rfl, rfl⟩) ?_ ?_
   rotate_left
   ·simp only [Act.put, List.setIfInBounds_toArray, List.set_cons_zero, List.set_cons_succ, i64_w, i32_w]
    rfl
   refine pure_ (i := 7) (N := some 16) (v := undef) (a' := ?_) #[true, true, true, true, true, true, true, true, false, false, false, false] rfl rfl (by kernel_rfl) (fun _ _ _ h => h) (Or.inr ⟨by rfl, rfl⟩) ?_ ?_
   rotate_left
   ·simp only [Act.put, List.setIfInBounds_toArray, List.set_cons_zero, List.set_cons_succ, i64_w, i32_w]
    rfl
   refine pure_ (i := 8) (N := some 17) (v := undef) (a' := ?_) #[true, true, true, true, true, true, true, true, true, false, false, false] rfl rfl (by kernel_rfl) (fun _ _ _ h => h) (Or.inr ⟨by rfl, rfl⟩) ?_ ?_
   rotate_left
   ·simp only [Act.put, List.setIfInBounds_toArray, List.set_cons_zero, List.set_cons_succ, i64_w, i32_w]
    rfl
   refine pure_ (i := 9) (N := some 18) (v := undef) (a' := ?_) #[true, true, true, true, true, true, true, true, true, true, false, false] rfl rfl (by kernel_rfl) (fun _ _ _ h => h) (Or.inr ⟨by rfl, rfl⟩) ?_ ?_
   rotate_left
   ·simp only [Act.put, List.setIfInBounds_toArray, List.set_cons_zero, List.set_cons_succ, i64_w, i32_w]
    rfl
   refine pure_ (i := 10) (N := some 19) (v := ?_) (a' := ?_) #[true, true, true, true, true, true, true, true, true, true, true, false] rfl rfl (by kernel_rfl) (fun _ _ _ h => h) (Or.inl ⟨by rfl, ?_⟩) ?_ ?_
   rotate_left
   ·intro w'
    go_simp
    with_reducible rfl
   rotate_left
   ·simp only [Act.put, List.setIfInBounds_toArray, List.set_cons_zero, List.set_cons_succ, i64_w, i32_w]
    rfl
   refine pure_ (i := 11) (N := some 2) (v := ?_) (a' := ?_) #[true, true, true, true, true, true, true, true, true, true, true, true] rfl rfl (by kernel_rfl) (fun _ _ _ h => h) (Or.inl ⟨by rfl, ?_⟩) ?_ ?_
   rotate_left
   ·intro w'
    go_simp
    with_reducible rfl
   rotate_left
   ·simp only [Act.put, List.setIfInBounds_toArray, List.set_cons_zero, List.set_cons_succ, i64_w, i32_w]
    rfl
   refine done_ (by kernel_rfl) ?_
   go_wp2
   go_ret
   exact ⟨rfl, HB1.out⟩
  ·rw [hfb] at hf
   have HF := Lib.hid hf
   clear hf hfb
   go_enter Tryz.func80, Tryz.ntmps80
   go_upto_region 3 with fail
   obtain ⟨w0, hw0⟩ : ∃ W : World, W = w.alloc (.cells #[.int .i64 3, .int .i64 n, .string f, .slice A4 fs.length c4, .slice A5 ks.length c5] 25) := ⟨_, rfl⟩
   rw [← hw0] at HB0 HX0 x2 x3
   rw [← hw0]
   clear hw0 x0 x1 x4
   refine start_ (n := 12) (S := fun w' => w'.cell? ⟨w.heap.size, 2, none⟩ = some (.string f) ∧ w'.cell? ⟨w.heap.size, 3, none⟩ = some (.slice A4 fs.length c4)) (ds := []) #[false, false, false, false, false, false, false, false, false, false, false, false] (by kernel_rfl) rfl rfl ⟨x2, x3⟩ (fun hHeld => ?_)
   obtain ⟨wd, hwd⟩ : ∃ W, W = w0.drew := ⟨_, rfl⟩
   rw [← hwd] at hHeld
   rw [← hwd]
   have hdr : Below w0.heap.size w0 wd := by rw [hwd]; exact s_drew (Below.refl _ _)
   have HBd := Lib.hid (s_trans HB0.out hdr)
   have HXd := Lib.hid (block_on hdr HX0.out)
   clear hwd hdr
   refine pure_ (i := 1) (N := some 10) (v := ?_) (a' := ?_) #[false, true, false, false, false, false, false, false, false, false, false, false] rfl rfl (by kernel_rfl) (fun _ _ _ h => h) (Or.inl ⟨by rfl, ?_⟩) ?_ ?_
   rotate_left
   ·intro w'
    go_simp
    with_reducible rfl
   rotate_left
   ·simp only [Act.put, List.setIfInBounds_toArray, List.set_cons_zero, List.set_cons_succ, i64_w, i32_w]
    rfl
   refine take_ (i := 2) (N := some 11) (v := ?_) (a' := ?_) #[false, true, true, false, false, false, false, false, false, false, false, false] rfl rfl (by kernel_rfl) (fun _ _ _ h => h) (Or.inl ⟨by rfl, ?_⟩) hHeld ?_ ?_
   rotate_left
   ·rintro w' ⟨s0, s1⟩
    go_simp
    with_reducible rfl
   rotate_left
   ·simp only [Act.put, List.setIfInBounds_toArray, List.set_cons_zero, List.set_cons_succ, i64_w, i32_w]
    rfl
   refine one_ (i := 0) (N := some 9) #[true, true, true, false, false, false, false, false, false, false, false, false] rfl rfl (by kernel_rfl) (by decide) (fun K hK => ?_)
   refine goes_ Tryz.func124 (by kernel_rfl) rfl #[] (by rfl) rfl rfl (by simp only [List.map_toArray, List.map_cons, List.map_nil]) ?_
   with_reducible refine (fields_any _).mono ?_
   rintro e w1 ⟨g, rfl, hst, hb⟩
   refine ⟨_, rfl, ?_⟩
   have HSA := Lib.hid hst
   have HX1 := Lib.hid (block_on hb HXd.out)
   have HB1 := Lib.hid (s_trans HBd.out hb)
   have hz := cells5 HX1.out
   clear hb hst
   refine hK.out _ _ ⟨hz.2.2.1, hz.2.2.2.1⟩ (fun hHeld => ?_)
   clear hK K
   refine norm_ (a' := ?_) ?_ ?_
   rotate_left
   ·show Act.put _ (some 9) _ = _
    simp only [Act.put, List.setIfInBounds_toArray, List.set_cons_zero, List.set_cons_succ, i64_w, i32_w]
    rfl
   refine one_ (i := 3) (N := some 12) #[true, true, true, true, false, false, false, false, false, false, false, false] rfl rfl (by kernel_rfl) (by decide) (fun K hK => ?_)
   refine goes_ Tryz.func122 (by kernel_rfl) rfl #[.slice (some ⟨g, 0, none⟩) 4 4, .string f] (by rfl) rfl rfl (by simp only [List.map_toArray, List.map_cons, List.map_nil]; rfl) ?_
   with_reducible refine (HF.out _ g HSA.out).mono ?_
   rintro e w2 ⟨rfl, rfl⟩
   refine ⟨_, rfl, ?_⟩
   refine hK.out _ _ ⟨hz.2.2.1, hz.2.2.2.1⟩ (fun hHeld => ?_)
   clear hK K
   refine norm_ (a' := ?_) ?_ ?_
   rotate_left
   ·show Act.put _ (some 12) _ = _
    simp only [Act.put, List.setIfInBounds_toArray, List.set_cons_zero, List.set_cons_succ, i64_w, i32_w]
    rfl
   refine pure_ (i := 4) (N := some 13) (v := ?_) (a' := ?_) #[true, true, true, true, true, false, false, false, false, false, false, false] rfl rfl (by kernel_rfl) (fun _ _ _ h => h) (Or.inl ⟨by rfl, ?_⟩) ?_ ?_
   rotate_left
   ·intro w'
    go_simp
    with_reducible rfl
   rotate_left
   ·simp only [Act.put, List.setIfInBounds_toArray, List.set_cons_zero, List.set_cons_succ, i64_w, i32_w]
    rfl
   refine pure_ (i := 5) (N := some 14) (v := ?_) (a' := ?_) #[true, true, true, true, true, true, false, false, false, false, false, false] rfl rfl (by kernel_rfl) (fun _ _ _ h => h) (Or.inl ⟨by rfl, ?_⟩) ?_ ?_
   rotate_left
   ·intro w'
    go_simp
    with_reducible rfl
   rotate_left
   ·simp only [Act.put, List.setIfInBounds_toArray, List.set_cons_zero, List.set_cons_succ, i64_w, i32_w]
    rfl
   refine pure_ (i := 7) (N := some 16) (v := ?_) (a' := ?_) #[true, true, true, true, true, true, false, true, false, false, false, false] rfl rfl (by kernel_rfl) (fun _ _ _ h => h) (Or.inl ⟨by rfl, ?_⟩) ?_ ?_
   rotate_left
   ·intro w'
    go_simp
    with_reducible rfl
   rotate_left
   ·simp only [Act.put, List.setIfInBounds_toArray, List.set_cons_zero, List.set_cons_succ, i64_w, i32_w]
    rfl
   refine take_ (i := 6) (N := some 15) (v := ?_) (a' := ?_) #[true, true, true, true, true, true, true, true, false, false, false, false] rfl rfl (by kernel_rfl) (fun _ _ _ h => h) (Or.inl ⟨by rfl, ?_⟩) hHeld ?_ ?_
   rotate_left
   ·rintro w' ⟨s0, s1⟩
    go_simp
    with_reducible rfl
   rotate_left
   ·simp only [Act.put, List.setIfInBounds_toArray, List.set_cons_zero, List.set_cons_succ, i64_w, i32_w]
    rfl
   refine one_ (i := 8) (N := some 17) #[true, true, true, true, true, true, true, true, true, false, false, false] rfl rfl (by kernel_rfl) (by decide) (fun K hK => ?_)
   refine goes_ Tryz.func97 (by kernel_rfl) rfl #[.slice A4 fs.length c4, .func (.func 121) #[] #[]] (by rfl) rfl rfl (by simp only [List.map_toArray, List.map_cons, List.map_nil]; rfl) ?_
   with_reducible refine (HST.out _ HB1.out).mono ?_
   rintro e w3 ⟨rfl, hb⟩
   refine ⟨_, rfl, ?_⟩
   have HB3 := Lib.hid (s_trans HB1.out hb)
   have hz := cells5 (block_on hb HX1.out)
   clear hb
   refine hK.out _ _ ⟨hz.2.2.1, hz.2.2.2.1⟩ (fun hHeld => ?_)
   clear hK K
   refine norm_ (a' := ?_) ?_ ?_
   rotate_left
   ·show Act.put _ (some 17) _ = _
    simp only [Act.put, List.setIfInBounds_toArray, List.set_cons_zero, List.set_cons_succ, i64_w, i32_w]
    rfl
   refine pure_ (i := 9) (N := some 18) (v := ?_) (a' := ?_) #[true, true, true, true, true, true, true, true, true, true, false, false] rfl rfl (by kernel_rfl) (fun _ _ _ h => h) (Or.inl ⟨by rfl, ?_⟩) ?_ ?_
   rotate_left
   ·intro w'
    go_simp
    with_reducible rfl
   rotate_left
   ·simp only [Act.put, List.setIfInBounds_toArray, List.set_cons_zero, List.set_cons_succ, i64_w, i32_w]
    rfl
   refine pure_ (i := 10) (N := some 19) (v := ?_) (a' := ?_) #[true, true, true, true, true, true, true, true, true, true, true, false] rfl rfl (by kernel_rfl) (fun _ _ _ h => h) (Or.inl ⟨by rfl, ?_⟩) ?_ ?_
   rotate_left
   ·intro w'
    go_simp
    with_reducible rfl
   rotate_left
   ·simp only [Act.put, List.setIfInBounds_toArray, List.set_cons_zero, List.set_cons_succ, i64_w, i32_w]
    rfl
   refine pure_ (i := 11) (N := some 2) (v := ?_) (a' := ?_) #[true, true, true, true, true, true, true, true, true, true, true, true] rfl rfl (by kernel_rfl) (fun _ _ _ h => h) (Or.inl ⟨by rfl, ?_⟩) ?_ ?_
   rotate_left
   ·intro w'
    go_simp
    with_reducible rfl
   rotate_left
   ·simp only [Act.put, List.setIfInBounds_toArray, List.set_cons_zero, List.set_cons_succ, i64_w, i32_w]
    rfl
   refine done_ (by kernel_rfl) ?_
   go_wp2
   go_ret
   exact ⟨rfl, HB3.out⟩
 ·rw [if_neg h3]
  have b3 : (k == 3) = false := beq_eq_false_iff_ne.2 h3
  have hkl := hs.2.1
  have HIH := Lib.hid ih
  clear h3 hs ih g3 g4 hb0 hx0
  go_enter Tryz.func80, Tryz.ntmps80
  go_wp2
  go_loopw [23] (fun i wr => ∃ q : Nat, q ≤ ks.length ∧ i = .int .i64 q ∧ Hid (namesL (ks.drop q) = namesL ks) ∧ Hid (Below w.heap.size w wr)) (fun i _ => ks.length - (intOf i).toNat)
  case atStart => exact ⟨0, Nat.zero_le _, rfl, by rw [List.drop_zero]; rfl, HB0⟩
  case round =>
   obtain ⟨q, hq, rfl, HA, HB⟩ := hrel
   by_cases hlt : q < ks.length
   ·obtain ⟨ad0, A6, c6, A7, c7, e0, q0, q1, q2, q3, q4, g5, g6, g7, g8⟩ := at_T25 (Kd.C_below HG4.out HB.out) (q : Int) (by omega) (by omega)
    have hy : rd_T25 ks (q : Int) = ks[q] := by unfold rd_T25; rw [Int.toNat_natCast, List.getD_eq_getElem?_getD, List.getElem?_eq_getElem hlt]; rfl
    have hdr : namesL (ks.drop q) = (namesB ks[q] && namesL (ks.drop (q + 1))) := by rw [List.drop_eq_getElem_cons hlt, namesL]
    rw [HA.out] at hdr
    have hmem := List.getElem_mem hlt
    rw [hy] at q0 q1 q2 q3 q4 g5 g6 g7 g8
    rw [Int.toNat_natCast] at q0 q1 q2 q3 q4
    cases e0
    generalize ks[q] = y at *
    clear hy
    have hiy := fun W (hb : Below wr.heap.size wr W) => HIH.out y hmem A6 c6 A7 c7 W (EIn.below ⟨g5, g6, g7, g8⟩ hb)
    clear g5 g6 g7 g8
    generalize hR : namesL (ks.drop (q + 1)) = REST at *
    have HRE := Lib.hid hR
    clear hR
    cases hny : namesB y
    all_goals
     rw [hny] at hiy hdr
     have HIY := Lib.hid hiy
     have HDR := Lib.hid hdr
     clear hiy hdr hny
     go_wp2_with (go_at_call 80; refine (HIY.out _ (s_alloc (Below.refl _ _) _)).mono ?_; rintro e w2 ⟨rfl, hb⟩; have HB2 := Lib.hid (s_trans (s_alloc HB.out _) hb); clear hb)
     first
      | (go_ret; exact ⟨by rw [HDR.out]; rfl, HB2.out⟩)
      | (go_roundw
         case rel => exact ⟨q + 1, by omega, by go_num, Lib.hid (HRE.out.trans (by have hz := HDR.out; rw [Bool.true_and] at hz; exact hz.symm)), HB2⟩
         case measure => simp [intOf]; omega)
   ·obtain rfl : q = ks.length := by omega
    have hA := HA.out
    rw [List.drop_length, namesL] at hA
    have HA2 := Lib.hid hA
    clear hA
    go_wp2
    go_ret
    exact ⟨by rw [← HA2.out]; rfl, HB.out⟩
theorem names_n : ∀ (n : Nat) (x : S25), SizeOf.sizeOf x < n → Small x → NamesAt x
 | 0, x, h, _ => by omega
 | n + 1, x, h, hs => names_step x hs (fun y hy => names_n n y (by have := kid_lt hy; omega) (hs.kids.2 y hy))
theorem names_at (x : S25) (hs : Small x) : NamesAt x := names_n (SizeOf.sizeOf x + 1) x (Nat.lt_succ_self _) hs
end Go.Proofs.YtnaglnifpejpjaaGreatDoor.Ch

/-
  syntax.Refs: gathering.
-/
namespace Go.Proofs.YtnaglnifpejpjaaGreatDoor.Ch
set_option linter.unusedVariables false
set_option linter.unusedSimpArgs false
set_option linter.unnecessarySimpa false
open Go.RowKit Go.Proofs.YtnaglnifpejpjaaGreatDoorK Go.Proofs.YtnaglnifpejpjaaGreatDoor.XEvalRuns Go.Proofs.YtnaglnifpejpjaaGreatDoorW.PrintWords Go.Proofs.YtnaglnifpejpjaaGreatDoorW.PrintLast

theorem infoI : (Tryz.prog.info? 3).map (fun i => (i.zero, i.size, i.bytes)) = some (some (.int .i64 0), 1, 8) := by kernel_rfl
mutual
/-- The boxes that it names, as they stand. -/
def refsB : S25 → List Int
 | ⟨k, n, _, _, ks⟩ => (if k = 2 then [n] else []) ++ refsL ks
def refsL : List S25 → List Int
 | [] => []
 | x :: xs => refsB x ++ refsL xs
end
end Go.Proofs.YtnaglnifpejpjaaGreatDoor.Ch

/-
  syntax.Refs: gather's walk.
-/
namespace Go.Proofs.YtnaglnifpejpjaaGreatDoor.Ch
set_option linter.unusedVariables false
set_option linter.unusedSimpArgs false
set_option linter.unnecessarySimpa false
open Go.RowKit Go.Proofs.YtnaglnifpejpjaaGreatDoorK Go.Proofs.YtnaglnifpejpjaaGreatDoor.XEvalRuns Go.Proofs.YtnaglnifpejpjaaGreatDoorW.PrintWords Go.Proofs.YtnaglnifpejpjaaGreatDoorW.PrintLast

theorem int_news (w : World) (n : Int) : ∀ j u, ([Value.int .i64 n])[j]? = some u → (w.alloc (.cells #[.int .i64 n] 3)).cell? (Addr.add ⟨w.heap.size, 0, none⟩ j) = some u := fun j u hu => by
 have hb : (w.alloc (.cells #[.int .i64 n] 3)).heap[w.heap.size]? = some (.cells #[.int .i64 n] 3 (0, 0)) := Array.getElem?_push_size
 cases j with
 | zero =>
   have ha : (⟨w.heap.size, 0, none⟩ : Addr).add 0 = ⟨w.heap.size, 0, none⟩ := rfl
   rw [ha, cells1 hb]
   simpa using hu
 | succ j => simp at hu
theorem own_slice {w : World} {base : Nat} {e : TypeId} {v : Value} {n : Nat} {xs : List Value} (h : w.ownsRow base e 1 v n xs) : ∃ ad cap, v = .slice ad n cap := by
 rcases h.2 with ⟨rfl, h0⟩ | ⟨g', cap, cur, rfl, _⟩
 ·exact ⟨none, 0, by rw [h0]⟩
 ·exact ⟨_, _, rfl⟩
end Go.Proofs.YtnaglnifpejpjaaGreatDoor.Ch

/-
  checker: need, the plain part; sorting a row of one's own.
-/
namespace Go.Proofs.YtnaglnifpejpjaaGreatDoor.Ch
set_option linter.unusedVariables false
set_option linter.unusedSimpArgs false
set_option linter.unnecessarySimpa false
open Go.RowKit Go.Maps Go.Proofs.YtnaglnifpejpjaaGreatDoorK Go.Proofs.YtnaglnifpejpjaaGreatDoor.XEvalRuns Go.Proofs.YtnaglnifpejpjaaGreatDoorW.PrintWords Go.Proofs.YtnaglnifpejpjaaGreatDoorW.PrintLast Go.Sort

theorem own_at {w : World} {base n j : Nat} {e : TypeId} {v : Value} {xs : List Value} (h : w.ownsRow base e 1 v n xs) (hj : j < n) : ∃ g cap u, v = .slice (some ⟨g, 0, none⟩) n cap ∧ n ≤ cap ∧ base ≤ g ∧ g < w.heap.size ∧ xs[j]? = some u ∧ w.cell? ⟨g, j, none⟩ = some u := by
 obtain ⟨hlen, hh⟩ := h
 rcases hh with ⟨rfl, h0⟩ | ⟨g, cap, cur, rfl, hb, hg, hn, hc, hs, ht⟩
 ·omega
 ·have hjx : j < xs.length := by omega
  refine ⟨g, cap, xs[j], rfl, hn, hb, block_lt hg, List.getElem?_eq_getElem hjx, ?_⟩
  have e1 : cur.toList[j]? = some xs[j] := by
   have h2 : (cur.toList.take (n * 1))[j]? = xs[j]? := by rw [ht]
   rw [List.getElem?_take_of_lt (by omega), List.getElem?_eq_getElem hjx] at h2
   exact h2
  rw [Array.getElem?_toList] at e1
  simp [World.cell?, hg, e1]
theorem own_block {w : World} {b n s q : Nat} {e : TypeId} {v : Value} {xs : List Value} (h : w.ownsRow b e s v n xs) (hq : v.ownBlock = some q) : b ≤ q ∧ ∃ cur, w.heap[q]? = some (.cells cur e (0, 0)) := by
 rcases h.2 with ⟨rfl, _⟩ | ⟨g', cap, cur, rfl, hb, hgg, _⟩
 ·cases hq
 ·obtain rfl : g' = q := Option.some.inj hq
  exact ⟨hb, cur, hgg⟩
theorem own_on {w w' : World} {b n s : Nat} {e : TypeId} {v : Value} {xs : List Value} (h : w.ownsRow b e s v n xs) (hb : Below w.heap.size w w') : w'.ownsRow b e s v n xs :=
 World.ownsRow.kept (row := none) h ⟨hb.os, hb.tape, hb.output, hb.size, fun k hk _ => hb.block k hk⟩ (by cases v.ownBlock <;> simp)
end Go.Proofs.YtnaglnifpejpjaaGreatDoor.Ch

/-
  checker: need, the walk.
-/
namespace Go.Proofs.YtnaglnifpejpjaaGreatDoor.Ch
set_option linter.unusedVariables false
set_option linter.unusedSimpArgs false
set_option linter.unnecessarySimpa false
open Go.RowKit Go.Maps Go.Proofs.YtnaglnifpejpjaaGreatDoorK Go.Proofs.YtnaglnifpejpjaaGreatDoor.XEvalRuns Go.Proofs.YtnaglnifpejpjaaGreatDoorW.PrintWords Go.Proofs.YtnaglnifpejpjaaGreatDoorW.PrintLast Go.Sort

theorem low_grow {w0 w w1 : World} {n s : Nat} {e : TypeId} {v : Value} {xs : List Value} (hb : Below w0.heap.size w0 w) (h : w.ownsRow w0.heap.size e s v n xs) (hg : w.grownBy w1 v.ownBlock) : Below w0.heap.size w0 w1 :=
 ⟨hg.os.trans hb.os, hg.tape.trans hb.tape, hg.output.trans hb.output, Nat.le_trans hb.size hg.size, fun k hk => (hg.block k (Nat.lt_of_lt_of_le hk hb.size) (fun e => by have := (own_block h e.symm).1; omega)).trans (hb.block k hk)⟩
end Go.Proofs.YtnaglnifpejpjaaGreatDoor.Ch
