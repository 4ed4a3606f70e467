/-
  Boxes, expressions, filters as values; slices.ContainsFunc over boxes.
-/
import Derived.Test.YtmkalnljclhigaaGreatQK2
import Derived.Test.YtmkalnljclhigaaGreatQXCheckerChecksx0
import Derived.Deep.DeepCutAuto
namespace Go.Proofs.YtmkalnljclhigaaGreat.Ch
set_option linter.unusedVariables false
set_option linter.unusedSimpArgs false
set_option linter.unnecessarySimpa false
open Go.RowKit Go.Proofs.YtmkalnljclhigaaGreatK Go.Proofs.YtmkalnljclhigaaGreat.XCheckerChecks Go.Proofs.YtmkalnljclhigaaGreatW.PrintWords Go.Proofs.YtmkalnljclhigaaGreatW.PrintLast

abbrev fV (x : S62) : Value := .agg #[.string x.f0, .int .u8 x.f1, .int .i64 x.f2]
abbrev eV (x : S33) (A4 : Option Addr) (c4 : Nat) (A5 : Option Addr) (c5 : Nat) : Value := .agg #[.int .i64 x.f0, .int .i64 x.f1, .string x.f2, .slice A4 x.f3.length c4, .slice A5 x.f4.length c5]
abbrev bV (x : S35) (A4 : Option Addr) (c4 : Nat) (A5 : Option Addr) (c5 : Nat) : Value := .agg #[.int .i64 x.f0, .int .i64 x.f1.f0, .int .i64 x.f1.f1, .string x.f1.f2, .slice A4 x.f1.f3.length c4, .slice A5 x.f1.f4.length c5]
/-- What an expression leads to lies in W. -/
structure EIn (W : World) (x : S33) (A4 : Option Addr) (c4 : Nat) (A5 : Option Addr) (c5 : Nat) : Prop where
  l3 : x.f3.length ≤ c4
  c3 : Kd.C k62 W A4 x.f3.length x.f3
  l4 : x.f4.length ≤ c5
  c4 : Kd.C k33 W A5 x.f4.length x.f4
theorem EIn.below {W W' : World} {x : S33} {A4 : Option Addr} {c4 : Nat} {A5 : Option Addr} {c5 : Nat} (h : EIn W x A4 c4 A5 c5) (hb : Below W.heap.size W W') : EIn W' x A4 c4 A5 c5 := ⟨h.l3, Kd.C_below h.c3 hb, h.l4, Kd.C_below h.c4 hb⟩
abbrev BIn (W : World) (x : S35) (A4 : Option Addr) (c4 : Nat) (A5 : Option Addr) (c5 : Nat) : Prop := EIn W x.f1 A4 c4 A5 c5

set_option maxRecDepth 100000 in
set_option maxHeartbeats 2000000 in
theorem good_idx (w : World) (A : Option Addr) (c : Nat) (l : List S35) (p : S35 → Bool) (hr : Kd.C k35 w A l.length l) (hc : l.length ≤ c) (hl : l.length < 1000000000000) (hp : ∀ x ∈ l, ∀ (A4 : Option Addr) (c4 : Nat) (A5 : Option Addr) (c5 : Nat) (W : World), Below w.heap.size w W → BIn W x A4 c4 A5 c5 → Calls Tryz.prog 48 #[bV x A4 c4 A5 c5] W fun e w' => e = .returned (.bool (p x)) ∧ Below W.heap.size W w') :
    Calls Tryz.prog 65 #[.slice A l.length c, .func (.func 48) #[] #[]] w fun e w' => ∃ i : Int, e = .returned (.int .i64 i) ∧ (i < 0 ↔ l.any p = false) ∧ -1 ≤ i ∧ i < l.length ∧ Below w.heap.size w w' := by
  have HR := Lib.hid hr
  have HP := Lib.hid hp
  clear hr hp
  go_enter Tryz.func65, Tryz.ntmps65
  go_wp2
  go_loopw [8] (fun i wr => ∃ k : Nat, k ≤ l.length ∧ i = .int .i64 k ∧ Hid ((l.take k).any p = false) ∧ Hid (Below w.heap.size w wr)) (fun i _ => l.length - (intOf i).toNat)
  case atStart => exact ⟨0, Nat.zero_le _, rfl, by rw [List.take_zero]; rfl, Below.refl _ _⟩
  case round =>
    obtain ⟨k, hk, rfl, HA, HB⟩ := hrel
    by_cases hlt : k < l.length
    · obtain ⟨ad0, A4, c4, A5, c5, e0, q0, q1, q2, q3, q4, q5, g3, g4, g5, g6⟩ := at_T35 (Kd.C_below HR.out HB.out) (k : Int) (by omega) (by omega)
      have hy : rd_T35 l (k : Int) = l[k] := by unfold rd_T35; rw [Int.toNat_natCast, List.getD_eq_getElem?_getD, List.getElem?_eq_getElem hlt]; rfl
      have htk : (l.take (k + 1)).any p = p l[k] := by
        rw [List.take_succ_eq_append_getElem hlt, List.any_append, HA.out, Bool.false_or, List.any_cons, List.any_nil, Bool.or_false]
      have hmem := List.getElem_mem hlt
      have hyes : p l[k] = true → l.any p = true := fun e => List.any_eq_true.2 ⟨_, hmem, e⟩
      rw [hy] at q0 q1 q2 q3 q4 q5 g3 g4 g5 g6
      rw [Int.toNat_natCast] at q0 q1 q2 q3 q4 q5
      cases e0
      generalize l[k] = y at *
      clear hy
      have HTK := Lib.hid htk
      have HYES := Lib.hid hyes
      clear htk hyes
      have HIN := Lib.hid (⟨g3, g4, g5, g6⟩ : BIn wr y A4 c4 A5 c5)
      clear g3 g4 g5 g6
      cases hpy : p y with
      | true =>
        have hp1 := fun W hb hi => HP.out y hmem A4 c4 A5 c5 W hb hi
        rw [hpy] at hp1
        have HP1 := Lib.hid hp1
        have HPY := Lib.hid hpy
        clear hp1 hpy
        go_wp2_with (go_at_call 48; refine (HP1.out _ HB.out HIN.out).mono ?_; rintro e w2 ⟨rfl, hb⟩; have HB2 := Lib.hid (s_trans HB.out hb); clear hb)
        go_ret
        refine ⟨k, rfl, ⟨fun h => by omega, fun h => ?_⟩, by omega, by omega, HB2.out⟩
        rw [HYES.out HPY.out] at h; cases h
      | false =>
        have hp1 := fun W hb hi => HP.out y hmem A4 c4 A5 c5 W hb hi
        rw [hpy] at hp1
        have HP1 := Lib.hid hp1
        have HPY := Lib.hid hpy
        clear hp1 hpy
        go_wp2_with (go_at_call 48; refine (HP1.out _ HB.out HIN.out).mono ?_; rintro e w2 ⟨rfl, hb⟩; have HB2 := Lib.hid (s_trans HB.out hb); clear hb)
        go_roundw
        case rel => exact ⟨k + 1, by omega, by go_num, Lib.hid (HTK.out.trans HPY.out), HB2⟩
        case measure => simp [intOf]; omega
    · obtain rfl : k = l.length := by omega
      go_wp2
      go_ret
      refine ⟨-1, rfl, ⟨fun _ => ?_, fun _ => by omega⟩, by omega, by omega, HB.out⟩
      have := HA.out
      rwa [List.take_length] at this
set_option maxRecDepth 100000 in
theorem good_any (w : World) (A : Option Addr) (c : Nat) (l : List S35) (p : S35 → Bool) (hr : Kd.C k35 w A l.length l) (hc : l.length ≤ c) (hl : l.length < 1000000000000) (hp : ∀ x ∈ l, ∀ (A4 : Option Addr) (c4 : Nat) (A5 : Option Addr) (c5 : Nat) (W : World), Below w.heap.size w W → BIn W x A4 c4 A5 c5 → Calls Tryz.prog 48 #[bV x A4 c4 A5 c5] W fun e w' => e = .returned (.bool (p x)) ∧ Below W.heap.size W w') :
    Calls Tryz.prog 47 #[.slice A l.length c, .func (.func 48) #[] #[]] w fun e w' => e = .returned (.bool (l.any p)) ∧ Below w.heap.size w w' := by
  have hi := good_idx w A c l p hr hc hl hp
  have HI := Lib.hid hi
  clear hi hr hp
  cases ha : l.any p with
  | true =>
    have HA := Lib.hid ha
    clear ha
    go_enter Tryz.func47, Tryz.ntmps47
    go_wp2_with (go_at_call 65; refine HI.out.mono ?_; rintro e w2 ⟨i, rfl, h1, h2, h3, hb⟩; have hge : (0 : Int) ≤ i := (by have := HA.out; rw [this] at h1; simp at h1; exact h1); have hd : decide ((0 : Int) ≤ i) = true := decide_eq_true hge; have HB2 := Lib.hid hb; clear hb h1)
    go_ret
    exact ⟨rfl, HB2.out⟩
  | false =>
    have HA := Lib.hid ha
    clear ha
    go_enter Tryz.func47, Tryz.ntmps47
    go_wp2_with (go_at_call 65; refine HI.out.mono ?_; rintro e w2 ⟨i, rfl, h1, h2, h3, hb⟩; have hge : ¬ (0 : Int) ≤ i := (by have := HA.out; rw [this] at h1; simp at h1; omega); have hd : decide ((0 : Int) ≤ i) = false := decide_eq_false hge; have HB2 := Lib.hid hb; clear hb h1)
    go_ret
    exact ⟨rfl, HB2.out⟩
end Go.Proofs.YtmkalnljclhigaaGreat.Ch
