/-
  syntax.right: its ways.
-/
import Derived.Test.YtmkalnljclhigaaGreatQCh2
namespace Go.Proofs.YtmkalnljclhigaaGreat.Ch
set_option linter.unusedVariables false
set_option linter.unusedSimpArgs false
set_option linter.unnecessarySimpa false
open Go.RowKit Go.Proofs.YtmkalnljclhigaaGreatK Go.Proofs.YtmkalnljclhigaaGreat.XCheckerChecks Go.Proofs.YtmkalnljclhigaaGreatW.PrintWords Go.Proofs.YtmkalnljclhigaaGreatW.PrintLast

theorem cells5 {w : World} {g : Nat} {a0 a1 a2 a3 a4 : Value} {t : TypeId} (h : w.heap[g]? = some (.cells #[a0, a1, a2, a3, a4] t (0, 0))) : w.cell? ⟨g, 0, none⟩ = some a0 ∧ w.cell? ⟨g, 1, none⟩ = some a1 ∧ w.cell? ⟨g, 2, none⟩ = some a2 ∧ w.cell? ⟨g, 3, none⟩ = some a3 ∧ w.cell? ⟨g, 4, none⟩ = some a4 := by refine ⟨?_, ?_, ?_, ?_, ?_⟩ <;> simp [World.cell?, h]
theorem empty_iff (a : ByteArray) : a.toList = ([] : List UInt8) ↔ a.size = 0 := by
  rw [ByteArray.toList_eq]
  constructor
  · intro h
    have : a.data.toList.length = 0 := by rw [h]; rfl
    rwa [Array.length_toList] at this
  · intro h
    exact List.eq_nil_of_length_eq_zero (by rw [Array.length_toList]; exact h)
def kidsB (k : Int) : Int × Bool := if k = 1 ∨ k = 2 ∨ k = 3 then (0, true) else if k = 6 then (1, true) else if k = 4 ∨ k = 5 ∨ k = 7 ∨ k = 8 then (2, true) else if k = 9 then (3, true) else (0, false)
theorem kids_f (k : Int) : syntax_kids.f 5 k = some (kidsB k) := by
  unfold syntax_kids.f kidsB
  by_cases h1 : k = 1
  · subst h1; rfl
  by_cases h2 : k = 2
  · subst h2; rfl
  by_cases h3 : k = 3
  · subst h3; rfl
  by_cases h4 : k = 4
  · subst h4; rfl
  by_cases h5 : k = 5
  · subst h5; rfl
  by_cases h6 : k = 6
  · subst h6; rfl
  by_cases h7 : k = 7
  · subst h7; rfl
  by_cases h8 : k = 8
  · subst h8; rfl
  by_cases h9 : k = 9
  · subst h9; rfl
  simp [syntax_kids.j0, syntax_kids.j1, h1, h2, h3, h4, h5, h6, h7, h8, h9]
theorem kids_any (k : Int) (w : World) : Calls Tryz.prog 90 #[.int .i64 k] w fun e w' => e = .returned (.tuple #[.int .i64 (kidsB k).1, .bool (kidsB k).2]) ∧ Below w.heap.size w w' :=
  (syntax_kids.calls 5 k _ _ w (kids_f k)).mono fun _ _ ⟨h1, h2⟩ => ⟨h1, h2.below⟩
theorem wrong_any (f : S62) (w : World) : Calls Tryz.prog 92 #[fV f] w fun e w' => e = .returned (.bool (!picksB f)) ∧ Below w.heap.size w w' := by
  have hp := fun w => picks_any f w
  generalize picksB f = PB at *
  have hb0 : Below w.heap.size w (w.alloc (.cells #[.string f.f0, .int .u8 f.f1, .int .i64 f.f2] 62)) := s_alloc (Below.refl _ _) _
  have HP := Lib.hid hp
  have HB0 := Lib.hid hb0
  clear hp hb0
  go_enter Tryz.func92, Tryz.ntmps92
  go_wp2_with (go_at_call 93; refine (HP.out _).mono ?_; rintro e w1 ⟨rfl, hb⟩; have HB1 := Lib.hid (s_trans HB0.out hb); clear hb)
  go_ret
  exact ⟨rfl, HB1.out⟩

set_option maxRecDepth 100000 in
set_option maxHeartbeats 2000000 in
theorem wrongF_idx (w : World) (A : Option Addr) (c : Nat) (l : List S62) (p : S62 → Bool) (hr : Kd.C k62 w A l.length l) (hc : l.length ≤ c) (hl : l.length < 1000000000000) (hp : ∀ x ∈ l, ∀ (W : World), Below w.heap.size w W → Calls Tryz.prog 92 #[fV x] W fun e w' => e = .returned (.bool (p x)) ∧ Below W.heap.size W w') :
    Calls Tryz.prog 61 #[.slice A l.length c, .func (.func 92) #[] #[]] w fun e w' => ∃ i : Int, e = .returned (.int .i64 i) ∧ (i < 0 ↔ l.any p = false) ∧ -1 ≤ i ∧ i < l.length ∧ Below w.heap.size w w' := by
  have HR := Lib.hid hr
  have HP := Lib.hid hp
  clear hr hp
  go_enter Tryz.func61, Tryz.ntmps61
  go_wp2
  go_loopw [8] (fun i wr => ∃ k : Nat, k ≤ l.length ∧ i = .int .i64 k ∧ Hid ((l.take k).any p = false) ∧ Hid (Below w.heap.size w wr)) (fun i _ => l.length - (intOf i).toNat)
  case atStart => exact ⟨0, Nat.zero_le _, rfl, by rw [List.take_zero]; rfl, Below.refl _ _⟩
  case round =>
    obtain ⟨k, hk, rfl, HA, HB⟩ := hrel
    by_cases hlt : k < l.length
    · obtain ⟨ad0, e0, q0, q1, q2⟩ := at_T62 (Kd.C_below HR.out HB.out) (k : Int) (by omega) (by omega)
      have hy : rd_T62 l (k : Int) = l[k] := by unfold rd_T62; rw [Int.toNat_natCast, List.getD_eq_getElem?_getD, List.getElem?_eq_getElem hlt]; rfl
      have htk : (l.take (k + 1)).any p = p l[k] := by
        rw [List.take_succ_eq_append_getElem hlt, List.any_append, HA.out, Bool.false_or, List.any_cons, List.any_nil, Bool.or_false]
      have hmem := List.getElem_mem hlt
      have hyes : p l[k] = true → l.any p = true := fun e => List.any_eq_true.2 ⟨_, hmem, e⟩
      rw [hy] at q0 q1 q2
      rw [Int.toNat_natCast] at q0 q1 q2
      cases e0
      generalize l[k] = y at *
      clear hy
      have HTK := Lib.hid htk
      have HYES := Lib.hid hyes
      clear htk hyes
      skip
      cases hpy : p y with
      | true =>
        have hp1 := fun W hb => HP.out y hmem W hb
        rw [hpy] at hp1
        have HP1 := Lib.hid hp1
        have HPY := Lib.hid hpy
        clear hp1 hpy
        go_wp2_with (go_at_call 92; refine (HP1.out _ HB.out).mono ?_; rintro e w2 ⟨rfl, hb⟩; have HB2 := Lib.hid (s_trans HB.out hb); clear hb)
        go_ret
        refine ⟨k, rfl, ⟨fun h => by omega, fun h => ?_⟩, by omega, by omega, HB2.out⟩
        rw [HYES.out HPY.out] at h; cases h
      | false =>
        have hp1 := fun W hb => HP.out y hmem W hb
        rw [hpy] at hp1
        have HP1 := Lib.hid hp1
        have HPY := Lib.hid hpy
        clear hp1 hpy
        go_wp2_with (go_at_call 92; refine (HP1.out _ HB.out).mono ?_; rintro e w2 ⟨rfl, hb⟩; have HB2 := Lib.hid (s_trans HB.out hb); clear hb)
        go_roundw
        case rel => exact ⟨k + 1, by omega, by go_num, Lib.hid (HTK.out.trans HPY.out), HB2⟩
        case measure => simp [intOf]; omega
    · obtain rfl : k = l.length := by omega
      go_wp2
      go_ret
      refine ⟨-1, rfl, ⟨fun _ => ?_, fun _ => by omega⟩, by omega, by omega, HB.out⟩
      have := HA.out
      rwa [List.take_length] at this
set_option maxRecDepth 100000 in
theorem wrongF_any (w : World) (A : Option Addr) (c : Nat) (l : List S62) (p : S62 → Bool) (hr : Kd.C k62 w A l.length l) (hc : l.length ≤ c) (hl : l.length < 1000000000000) (hp : ∀ x ∈ l, ∀ (W : World), Below w.heap.size w W → Calls Tryz.prog 92 #[fV x] W fun e w' => e = .returned (.bool (p x)) ∧ Below W.heap.size W w') :
    Calls Tryz.prog 38 #[.slice A l.length c, .func (.func 92) #[] #[]] w fun e w' => e = .returned (.bool (l.any p)) ∧ Below w.heap.size w w' := by
  have hi := wrongF_idx w A c l p hr hc hl hp
  have HI := Lib.hid hi
  clear hi hr hp
  cases ha : l.any p with
  | true =>
    have HA := Lib.hid ha
    clear ha
    go_enter Tryz.func38, Tryz.ntmps38
    go_wp2_with (go_at_call 61; refine HI.out.mono ?_; rintro e w2 ⟨i, rfl, h1, h2, h3, hb⟩; have hge : (0 : Int) ≤ i := (by have := HA.out; rw [this] at h1; simp at h1; exact h1); have hd : decide ((0 : Int) ≤ i) = true := decide_eq_true hge; have HB2 := Lib.hid hb; clear hb h1)
    go_ret
    exact ⟨rfl, HB2.out⟩
  | false =>
    have HA := Lib.hid ha
    clear ha
    go_enter Tryz.func38, Tryz.ntmps38
    go_wp2_with (go_at_call 61; refine HI.out.mono ?_; rintro e w2 ⟨i, rfl, h1, h2, h3, hb⟩; have hge : ¬ (0 : Int) ≤ i := (by have := HA.out; rw [this] at h1; simp at h1; omega); have hd : decide ((0 : Int) ≤ i) = false := decide_eq_false hge; have HB2 := Lib.hid hb; clear hb h1)
    go_ret
    exact ⟨rfl, HB2.out⟩

set_option maxRecDepth 100000 in
set_option maxHeartbeats 2000000 in
theorem kid_idx (w : World) (A : Option Addr) (c : Nat) (l : List S33) (p : S33 → Bool) (hr : Kd.C k33 w A l.length l) (hc : l.length ≤ c) (hl : l.length < 1000000000000) (hp : ∀ x ∈ l, ∀ (A4 : Option Addr) (c4 : Nat) (A5 : Option Addr) (c5 : Nat) (W : World), Below w.heap.size w W → EIn W x A4 c4 A5 c5 → Calls Tryz.prog 95 #[eV x A4 c4 A5 c5] W fun e w' => e = .returned (.bool (p x)) ∧ Below W.heap.size W w') :
    Calls Tryz.prog 106 #[.slice A l.length c, .func (.func 95) #[] #[]] w fun e w' => ∃ i : Int, e = .returned (.int .i64 i) ∧ (i < 0 ↔ l.any p = false) ∧ -1 ≤ i ∧ i < l.length ∧ Below w.heap.size w w' := by
  have HR := Lib.hid hr
  have HP := Lib.hid hp
  clear hr hp
  go_enter Tryz.func106, Tryz.ntmps106
  go_wp2
  go_loopw [8] (fun i wr => ∃ k : Nat, k ≤ l.length ∧ i = .int .i64 k ∧ Hid ((l.take k).any p = false) ∧ Hid (Below w.heap.size w wr)) (fun i _ => l.length - (intOf i).toNat)
  case atStart => exact ⟨0, Nat.zero_le _, rfl, by rw [List.take_zero]; rfl, Below.refl _ _⟩
  case round =>
    obtain ⟨k, hk, rfl, HA, HB⟩ := hrel
    by_cases hlt : k < l.length
    · obtain ⟨ad0, A4, c4, A5, c5, e0, q0, q1, q2, q3, q4, g3, g4, g5, g6⟩ := at_T33 (Kd.C_below HR.out HB.out) (k : Int) (by omega) (by omega)
      have hy : rd_T33 l (k : Int) = l[k] := by unfold rd_T33; rw [Int.toNat_natCast, List.getD_eq_getElem?_getD, List.getElem?_eq_getElem hlt]; rfl
      have htk : (l.take (k + 1)).any p = p l[k] := by
        rw [List.take_succ_eq_append_getElem hlt, List.any_append, HA.out, Bool.false_or, List.any_cons, List.any_nil, Bool.or_false]
      have hmem := List.getElem_mem hlt
      have hyes : p l[k] = true → l.any p = true := fun e => List.any_eq_true.2 ⟨_, hmem, e⟩
      rw [hy] at q0 q1 q2 q3 q4 g3 g4 g5 g6
      rw [Int.toNat_natCast] at q0 q1 q2 q3 q4
      cases e0
      generalize l[k] = y at *
      clear hy
      have HTK := Lib.hid htk
      have HYES := Lib.hid hyes
      clear htk hyes
      have HIN := Lib.hid (⟨g3, g4, g5, g6⟩ : EIn wr y A4 c4 A5 c5)
      clear g3 g4 g5 g6
      cases hpy : p y with
      | true =>
        have hp1 := fun W hb hi => HP.out y hmem A4 c4 A5 c5 W hb hi
        rw [hpy] at hp1
        have HP1 := Lib.hid hp1
        have HPY := Lib.hid hpy
        clear hp1 hpy
        go_wp2_with (go_at_call 95; refine (HP1.out _ HB.out HIN.out).mono ?_; rintro e w2 ⟨rfl, hb⟩; have HB2 := Lib.hid (s_trans HB.out hb); clear hb)
        go_ret
        refine ⟨k, rfl, ⟨fun h => by omega, fun h => ?_⟩, by omega, by omega, HB2.out⟩
        rw [HYES.out HPY.out] at h; cases h
      | false =>
        have hp1 := fun W hb hi => HP.out y hmem A4 c4 A5 c5 W hb hi
        rw [hpy] at hp1
        have HP1 := Lib.hid hp1
        have HPY := Lib.hid hpy
        clear hp1 hpy
        go_wp2_with (go_at_call 95; refine (HP1.out _ HB.out HIN.out).mono ?_; rintro e w2 ⟨rfl, hb⟩; have HB2 := Lib.hid (s_trans HB.out hb); clear hb)
        go_roundw
        case rel => exact ⟨k + 1, by omega, by go_num, Lib.hid (HTK.out.trans HPY.out), HB2⟩
        case measure => simp [intOf]; omega
    · obtain rfl : k = l.length := by omega
      go_wp2
      go_ret
      refine ⟨-1, rfl, ⟨fun _ => ?_, fun _ => by omega⟩, by omega, by omega, HB.out⟩
      have := HA.out
      rwa [List.take_length] at this
set_option maxRecDepth 100000 in
theorem kid_any (w : World) (A : Option Addr) (c : Nat) (l : List S33) (p : S33 → Bool) (hr : Kd.C k33 w A l.length l) (hc : l.length ≤ c) (hl : l.length < 1000000000000) (hp : ∀ x ∈ l, ∀ (A4 : Option Addr) (c4 : Nat) (A5 : Option Addr) (c5 : Nat) (W : World), Below w.heap.size w W → EIn W x A4 c4 A5 c5 → Calls Tryz.prog 95 #[eV x A4 c4 A5 c5] W fun e w' => e = .returned (.bool (p x)) ∧ Below W.heap.size W w') :
    Calls Tryz.prog 96 #[.slice A l.length c, .func (.func 95) #[] #[]] w fun e w' => e = .returned (.bool (l.any p)) ∧ Below w.heap.size w w' := by
  have hi := kid_idx w A c l p hr hc hl hp
  have HI := Lib.hid hi
  clear hi hr hp
  cases ha : l.any p with
  | true =>
    have HA := Lib.hid ha
    clear ha
    go_enter Tryz.func96, Tryz.ntmps96
    go_wp2_with (go_at_call 106; refine HI.out.mono ?_; rintro e w2 ⟨i, rfl, h1, h2, h3, hb⟩; have hge : (0 : Int) ≤ i := (by have := HA.out; rw [this] at h1; simp at h1; exact h1); have hd : decide ((0 : Int) ≤ i) = true := decide_eq_true hge; have HB2 := Lib.hid hb; clear hb h1)
    go_ret
    exact ⟨rfl, HB2.out⟩
  | false =>
    have HA := Lib.hid ha
    clear ha
    go_enter Tryz.func96, Tryz.ntmps96
    go_wp2_with (go_at_call 106; refine HI.out.mono ?_; rintro e w2 ⟨i, rfl, h1, h2, h3, hb⟩; have hge : ¬ (0 : Int) ≤ i := (by have := HA.out; rw [this] at h1; simp at h1; omega); have hd : decide ((0 : Int) ≤ i) = false := decide_eq_false hge; have HB2 := Lib.hid hb; clear hb h1)
    go_ret
    exact ⟨rfl, HB2.out⟩
end Go.Proofs.YtmkalnljclhigaaGreat.Ch
