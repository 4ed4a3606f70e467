/- Several texts in one. -/
import Derived.Test.YtmkalnljclhigaaGreatQCh8
import Derived.Test.YtmkalnljclhigaaGreatQCh11
import Derived.Maps.OwnSet
import Derived.Maps.OwnOps
import Derived.Maps.Views
import Derived.Maps.AppendAt
import Derived.Laws.MakeOwn
import Derived.Deep.LoopGhost
/-
  checker: names$1, ContainsFunc over boxes with it.
-/
namespace Go.Proofs.YtmkalnljclhigaaGreat.Ch
set_option linter.unusedVariables false
set_option linter.unusedSimpArgs false
set_option linter.unnecessarySimpa false
open Go.RowKit Go.Proofs.YtmkalnljclhigaaGreatK Go.Proofs.YtmkalnljclhigaaGreat.XCheckerChecks Go.Proofs.YtmkalnljclhigaaGreatW.PrintWords Go.Proofs.YtmkalnljclhigaaGreatW.PrintLast

set_option maxRecDepth 100000 in
theorem names1_any (x : S35) (hs : Small x.f1) (A4 : Option Addr) (c4 : Nat) (A5 : Option Addr) (c5 : Nat) (w : World) (hin : BIn w x A4 c4 A5 c5) : Calls Tryz.prog 52 #[bV x A4 c4 A5 c5] w fun e w' => e = .returned (.bool (!namesB x.f1)) ∧ Below w.heap.size w w' := by
  have hp := fun W (hb : Below w.heap.size w W) => names_at x.f1 hs A4 c4 A5 c5 W (hin.below hb)
  generalize namesB x.f1 = PB at *
  have hb0 : Below w.heap.size w (w.alloc (.cells #[.int .i64 x.f0, .int .i64 x.f1.f0, .int .i64 x.f1.f1, .string x.f1.f2, .slice A4 x.f1.f3.length c4, .slice A5 x.f1.f4.length c5] 35)) := s_alloc (Below.refl _ _) _
  have HP := Lib.hid hp
  have HB0 := Lib.hid hb0
  clear hp hb0 hin hs
  go_enter Tryz.func52, Tryz.ntmps52
  go_wp2_with (go_at_call 9; refine (HP.out _ HB0.out).mono ?_; rintro e w1 ⟨rfl, hb⟩; have HB1 := Lib.hid (s_trans HB0.out hb); clear hb)
  go_ret
  exact ⟨rfl, HB1.out⟩

set_option maxRecDepth 100000 in
set_option maxHeartbeats 2000000 in
theorem namesb_idx (w : World) (A : Option Addr) (c : Nat) (l : List S35) (p : S35 → Bool) (hr : Kd.C k35 w A l.length l) (hc : l.length ≤ c) (hl : l.length < 1000000000000) (hp : ∀ x ∈ l, ∀ (A4 : Option Addr) (c4 : Nat) (A5 : Option Addr) (c5 : Nat) (W : World), Below w.heap.size w W → BIn W x A4 c4 A5 c5 → Calls Tryz.prog 52 #[bV x A4 c4 A5 c5] W fun e w' => e = .returned (.bool (p x)) ∧ Below W.heap.size W w') :
    Calls Tryz.prog 65 #[.slice A l.length c, .func (.func 52) #[] #[]] w fun e w' => ∃ i : Int, e = .returned (.int .i64 i) ∧ (i < 0 ↔ l.any p = false) ∧ -1 ≤ i ∧ i < l.length ∧ Below w.heap.size w w' := by
  have HR := Lib.hid hr
  have HP := Lib.hid hp
  clear hr hp
  go_enter Tryz.func65, Tryz.ntmps65
  go_wp2
  go_loopw [8] (fun i wr => ∃ k : Nat, k ≤ l.length ∧ i = .int .i64 k ∧ Hid ((l.take k).any p = false) ∧ Hid (Below w.heap.size w wr)) (fun i _ => l.length - (intOf i).toNat)
  case atStart => exact ⟨0, Nat.zero_le _, rfl, by rw [List.take_zero]; rfl, Below.refl _ _⟩
  case round =>
    obtain ⟨k, hk, rfl, HA, HB⟩ := hrel
    by_cases hlt : k < l.length
    · obtain ⟨ad0, A4, c4, A5, c5, e0, q0, q1, q2, q3, q4, q5, g3, g4, g5, g6⟩ := at_T35 (Kd.C_below HR.out HB.out) (k : Int) (by omega) (by omega)
      have hy : rd_T35 l (k : Int) = l[k] := by unfold rd_T35; rw [Int.toNat_natCast, List.getD_eq_getElem?_getD, List.getElem?_eq_getElem hlt]; rfl
      have htk : (l.take (k + 1)).any p = p l[k] := by
        rw [List.take_succ_eq_append_getElem hlt, List.any_append, HA.out, Bool.false_or, List.any_cons, List.any_nil, Bool.or_false]
      have hmem := List.getElem_mem hlt
      have hyes : p l[k] = true → l.any p = true := fun e => List.any_eq_true.2 ⟨_, hmem, e⟩
      rw [hy] at q0 q1 q2 q3 q4 q5 g3 g4 g5 g6
      rw [Int.toNat_natCast] at q0 q1 q2 q3 q4 q5
      cases e0
      generalize l[k] = y at *
      clear hy
      have HTK := Lib.hid htk
      have HYES := Lib.hid hyes
      clear htk hyes
      have HIN := Lib.hid (⟨g3, g4, g5, g6⟩ : BIn wr y A4 c4 A5 c5)
      clear g3 g4 g5 g6
      cases hpy : p y with
      | true =>
        have hp1 := fun W hb hi => HP.out y hmem A4 c4 A5 c5 W hb hi
        rw [hpy] at hp1
        have HP1 := Lib.hid hp1
        have HPY := Lib.hid hpy
        clear hp1 hpy
        go_wp2_with (go_at_call 52; refine (HP1.out _ HB.out HIN.out).mono ?_; rintro e w2 ⟨rfl, hb⟩; have HB2 := Lib.hid (s_trans HB.out hb); clear hb)
        go_ret
        refine ⟨k, rfl, ⟨fun h => by omega, fun h => ?_⟩, by omega, by omega, HB2.out⟩
        rw [HYES.out HPY.out] at h; cases h
      | false =>
        have hp1 := fun W hb hi => HP.out y hmem A4 c4 A5 c5 W hb hi
        rw [hpy] at hp1
        have HP1 := Lib.hid hp1
        have HPY := Lib.hid hpy
        clear hp1 hpy
        go_wp2_with (go_at_call 52; refine (HP1.out _ HB.out HIN.out).mono ?_; rintro e w2 ⟨rfl, hb⟩; have HB2 := Lib.hid (s_trans HB.out hb); clear hb)
        go_roundw
        case rel => exact ⟨k + 1, by omega, by go_num, Lib.hid (HTK.out.trans HPY.out), HB2⟩
        case measure => simp [intOf]; omega
    · obtain rfl : k = l.length := by omega
      go_wp2
      go_ret
      refine ⟨-1, rfl, ⟨fun _ => ?_, fun _ => by omega⟩, by omega, by omega, HB.out⟩
      have := HA.out
      rwa [List.take_length] at this
set_option maxRecDepth 100000 in
theorem namesb_any (w : World) (A : Option Addr) (c : Nat) (l : List S35) (p : S35 → Bool) (hr : Kd.C k35 w A l.length l) (hc : l.length ≤ c) (hl : l.length < 1000000000000) (hp : ∀ x ∈ l, ∀ (A4 : Option Addr) (c4 : Nat) (A5 : Option Addr) (c5 : Nat) (W : World), Below w.heap.size w W → BIn W x A4 c4 A5 c5 → Calls Tryz.prog 52 #[bV x A4 c4 A5 c5] W fun e w' => e = .returned (.bool (p x)) ∧ Below W.heap.size W w') :
    Calls Tryz.prog 47 #[.slice A l.length c, .func (.func 52) #[] #[]] w fun e w' => e = .returned (.bool (l.any p)) ∧ Below w.heap.size w w' := by
  have hi := namesb_idx w A c l p hr hc hl hp
  have HI := Lib.hid hi
  clear hi hr hp
  cases ha : l.any p with
  | true =>
    have HA := Lib.hid ha
    clear ha
    go_enter Tryz.func47, Tryz.ntmps47
    go_wp2_with (go_at_call 65; refine HI.out.mono ?_; rintro e w2 ⟨i, rfl, h1, h2, h3, hb⟩; have hge : (0 : Int) ≤ i := (by have := HA.out; rw [this] at h1; simp at h1; exact h1); have hd : decide ((0 : Int) ≤ i) = true := decide_eq_true hge; have HB2 := Lib.hid hb; clear hb h1)
    go_ret
    exact ⟨rfl, HB2.out⟩
  | false =>
    have HA := Lib.hid ha
    clear ha
    go_enter Tryz.func47, Tryz.ntmps47
    go_wp2_with (go_at_call 65; refine HI.out.mono ?_; rintro e w2 ⟨i, rfl, h1, h2, h3, hb⟩; have hge : ¬ (0 : Int) ≤ i := (by have := HA.out; rw [this] at h1; simp at h1; omega); have hd : decide ((0 : Int) ≤ i) = false := decide_eq_false hge; have HB2 := Lib.hid hb; clear hb h1)
    go_ret
    exact ⟨rfl, HB2.out⟩
end Go.Proofs.YtmkalnljclhigaaGreat.Ch

/-
  checker: arrange$1 and ContainsFunc over int with it.
-/
namespace Go.Proofs.YtmkalnljclhigaaGreat.Ch
set_option linter.unusedVariables false
set_option linter.unusedSimpArgs false
set_option linter.unnecessarySimpa false
open Go.RowKit Go.Proofs.YtmkalnljclhigaaGreatK Go.Proofs.YtmkalnljclhigaaGreat.XCheckerChecks Go.Proofs.YtmkalnljclhigaaGreatW.PrintWords Go.Proofs.YtmkalnljclhigaaGreatW.PrintLast

/-- The boxes that are done: a variable, and its row. -/
structure Done (w : World) (D gd : Nat) (ds : List Bool) : Prop where
  box : w.heap[D]? = some (.cells #[.slice (some ⟨gd, 0, none⟩) ds.length ds.length] 74 (0, 0))
  row : w.heap[gd]? = some (.cells (ds.map Value.bool).toArray 4 (0, 0))
theorem Done.at {w : World} {D gd : Nat} {ds : List Bool} (h : Done w D gd ds) {k : Nat} (hk : k < ds.length) : w.cell? ⟨gd, k, none⟩ = some (.bool (ds.getD k false)) := by
  simp [World.cell?, h.row, hk]
theorem Done.below {w w1 : World} {D gd : Nat} {ds : List Bool} (h : Done w D gd ds) (hb : Below w.heap.size w w1) : Done w1 D gd ds := ⟨(hb.block D (block_lt h.box)).trans h.box, (hb.block gd (block_lt h.row)).trans h.row⟩
set_option maxRecDepth 100000 in
theorem missing_any (w : World) (D gd : Nat) (ds : List Bool) (k : Nat) (hk : k < ds.length) (h : Done w D gd ds) : Calls Tryz.prog 53 #[.int .i64 k, .pointer (some ⟨D, 0, none⟩)] w fun e w' => e = .returned (.bool (!ds.getD k false)) ∧ Below w.heap.size w w' := by
  have c0 := cells1 h.box
  have c1 := h.at hk
  generalize ds.getD k false = b at *
  generalize ds.length = n at *
  clear h
  go_enter Tryz.func53, Tryz.ntmps53
  go_wp2
  go_ret
  exact ⟨rfl, Below.refl _ _⟩
/-- Numbers in a row. -/
def RowI (w : World) (A : Option Addr) (g : Nat) (l : List Nat) : Prop := ∀ k (h : k < l.length), A = some ⟨g, 0, none⟩ ∧ g < w.heap.size ∧ w.cell? ⟨g, k, none⟩ = some (.int .i64 (l[k] : Nat))
set_option maxRecDepth 100000 in
set_option maxHeartbeats 2000000 in
theorem missing_idx (w : World) (D gd : Nat) (ds : List Bool) (A : Option Addr) (g c : Nat) (l : List Nat) (hd : Done w D gd ds) (hl : l.length < 1000000000000) (hc : l.length ≤ c) (hin : ∀ x ∈ l, x < ds.length) (hr : RowI w A g l) :
    Calls Tryz.prog 72 #[.slice A l.length c, .func (.func 53) #[] #[.pointer (some ⟨D, 0, none⟩)]] w fun e w' => ∃ i : Int, e = .returned (.int .i64 i) ∧ (i < 0 ↔ l.any (fun x => !ds.getD x false) = false) ∧ -1 ≤ i ∧ i < l.length ∧ Below w.heap.size w w' := by
  have HD := Lib.hid hd
  have HR := Lib.hid hr
  have HI := Lib.hid hin
  clear hd hr hin
  go_enter Tryz.func72, Tryz.ntmps72
  go_wp2
  go_loopw [8] (fun i wr => ∃ k : Nat, k ≤ l.length ∧ i = .int .i64 k ∧ Hid ((l.take k).any (fun x => !ds.getD x false) = false) ∧ Hid (Below w.heap.size w wr)) (fun i _ => l.length - (intOf i).toNat)
  case atStart => exact ⟨0, Nat.zero_le _, rfl, by rw [List.take_zero]; rfl, Below.refl _ _⟩
  case round =>
    obtain ⟨k, hk, rfl, HA, HB⟩ := hrel
    by_cases hlt : k < l.length
    · obtain ⟨hA, hgw, hcell⟩ := HR.out k hlt
      have q0 : wr.cell? ⟨g, k, none⟩ = some (.int .i64 (l[k] : Nat)) := (HB.out.cell (p := ⟨g, k, none⟩) hgw).trans hcell
      subst hA
      clear hgw hcell
      have htk : (l.take (k + 1)).any (fun x => !ds.getD x false) = !ds.getD l[k] false := by
        rw [List.take_succ_eq_append_getElem hlt, List.any_append, HA.out, Bool.false_or, List.any_cons, List.any_nil, Bool.or_false]
      have hmem := List.getElem_mem hlt
      have hyes : (!ds.getD l[k] false) = true → l.any (fun x => !ds.getD x false) = true := fun e => List.any_eq_true.2 ⟨_, hmem, e⟩
      have hly := HI.out _ hmem
      generalize l[k] = y at *
      have hm := missing_any wr D gd ds y hly (HD.out.below HB.out)
      have HTK := Lib.hid htk
      have HYES := Lib.hid hyes
      clear htk hyes hly hmem
      generalize hpy : (!ds.getD y false) = py at *
      have HM := Lib.hid hm
      clear hm hpy
      cases py with
      | true =>
        go_wp2_with (go_at_call 53; refine HM.out.mono ?_; rintro e w2 ⟨rfl, hb⟩; have HB2 := Lib.hid (s_trans HB.out hb); clear hb)
        go_ret
        refine ⟨k, rfl, ⟨fun h => by omega, fun h => ?_⟩, by omega, by omega, HB2.out⟩
        rw [HYES.out (by simp)] at h; cases h
      | false =>
        go_wp2_with (go_at_call 53; refine HM.out.mono ?_; rintro e w2 ⟨rfl, hb⟩; have HB2 := Lib.hid (s_trans HB.out hb); clear hb)
        go_roundw
        case rel => exact ⟨k + 1, by omega, by go_num, HTK, HB2⟩
        case measure => simp [intOf]; omega
    · obtain rfl : k = l.length := by omega
      go_wp2
      go_ret
      refine ⟨-1, rfl, ⟨fun _ => ?_, fun _ => by omega⟩, by omega, by omega, HB.out⟩
      have := HA.out
      rwa [List.take_length] at this
set_option maxRecDepth 100000 in
theorem missings_any (w : World) (D gd : Nat) (ds : List Bool) (A : Option Addr) (g c : Nat) (l : List Nat) (hd : Done w D gd ds) (hl : l.length < 1000000000000) (hc : l.length ≤ c) (hin : ∀ x ∈ l, x < ds.length) (hr : RowI w A g l) :
    Calls Tryz.prog 54 #[.slice A l.length c, .func (.func 53) #[] #[.pointer (some ⟨D, 0, none⟩)]] w fun e w' => e = .returned (.bool (l.any (fun x => !ds.getD x false))) ∧ Below w.heap.size w w' := by
  have hi := missing_idx w D gd ds A g c l hd hl hc hin hr
  have HI := Lib.hid hi
  clear hi hd hr hin
  go_enter Tryz.func54, Tryz.ntmps54
  go_wp2_with (go_at_call 72; refine HI.out.mono ?_; rintro e w1 ⟨i, rfl, hi1, hi2, hi3, hb⟩; have HB1 := Lib.hid hb; have HI1 := Lib.hid hi1; clear hb hi1)
  go_ret
  refine ⟨?_, HB1.out⟩
  refine congrArg (fun b => Ending.returned (Value.bool b)) ?_
  cases h : l.any (fun x => !ds.getD x false) with
  | false => exact decide_eq_false (by have := HI1.out.2 h; omega)
  | true => exact decide_eq_true (by
      refine Int.not_lt.1 fun h2 => ?_
      rw [HI1.out.1 h2] at h
      cases h)
end Go.Proofs.YtmkalnljclhigaaGreat.Ch

/-
  checker: slices.Clone over boxes; names.
-/
namespace Go.Proofs.YtmkalnljclhigaaGreat.Ch
set_option linter.unusedVariables false
set_option linter.unusedSimpArgs false
set_option linter.unnecessarySimpa false
open Go.RowKit Go.Proofs.YtmkalnljclhigaaGreatK Go.Proofs.YtmkalnljclhigaaGreat.XCheckerChecks Go.Proofs.YtmkalnljclhigaaGreatW.PrintWords Go.Proofs.YtmkalnljclhigaaGreatW.PrintLast

def boxRen : Go.Shelf.Ren := ⟨fun | 41 => 24 | n => n, fun | 22 => 22 | 23 => 35 | 4 => 4 | n => n, fun | n => n⟩
theorem boxLays : Go.Proofs.SlLaysE0.n41 Tryz.prog boxRen := {
  mixed := by kernel_rfl
  f41 := ⟨Tryz.f24.name, by decide, Tryz.func24.trans (congrArg some (by kernel_rfl))⟩
  t4 := Tryz.underlying4
  a4 := Tryz.isAgg4
  z4 := Tryz.sizeOf4
  v4 := Tryz.zeroValue4
  t22 := Tryz.underlying22
  a22 := Tryz.isAgg22
  z22 := Tryz.sizeOf22
  v22 := Tryz.zeroValue22 }
set_option maxRecDepth 100000 in
theorem names_any' (w : World) (p : Nat) (A : Option Addr) (c : Nat) (l : List S35) (hp : w.cell? ⟨p, 0, none⟩ = some (.slice A l.length c)) (hr : Kd.C k35 w A l.length l) (hc : l.length ≤ c) (hl : l.length < 1000000000000) (hs : ∀ x ∈ l, Small x.f1) :
    Calls Tryz.prog 27 #[.pointer (some ⟨p, 0, none⟩)] w fun e w' => e = .returned (.int .i64 (if l.any (fun b => !namesB b.f1) = true then 80 else 0)) ∧ Below w.heap.size w w' := by
  have hn := namesb_any w A c l (fun b => !namesB b.f1) hr hc hl (fun x hx A4 c4 A5 c5 W hb hin => names1_any x (hs x hx) A4 c4 A5 c5 W hin)
  generalize l.any (fun b => !namesB b.f1) = NB at *
  have HN := Lib.hid hn
  clear hn hr hs hc hl
  cases NB
  all_goals
    go_enter Tryz.func27, Tryz.ntmps27
    go_wp2_with (go_at_call 47; refine HN.out.mono ?_; rintro e w1 ⟨rfl, hb⟩; have HB1 := Lib.hid hb; clear hb)
    go_ret
    exact ⟨rfl, HB1.out⟩
end Go.Proofs.YtmkalnljclhigaaGreat.Ch

/-
  checker: Box of a plan that no call made.
-/
namespace Go.Proofs.YtmkalnljclhigaaGreat.Ch
set_option linter.unusedVariables false
set_option linter.unusedSimpArgs false
set_option linter.unnecessarySimpa false
open Go.RowKit Go.Proofs.YtmkalnljclhigaaGreatK Go.Proofs.YtmkalnljclhigaaGreat.XCheckerChecks Go.Proofs.YtmkalnljclhigaaGreatW.PrintWords Go.Proofs.YtmkalnljclhigaaGreatW.PrintLast

abbrev zBox : Array Value := #[.int .i64 0, .int .i64 0, .int .i64 0, .string ⟨#[]⟩, .slice none 0 0, .slice none 0 0]
end Go.Proofs.YtmkalnljclhigaaGreat.Ch

/-
  checker: done.
-/
namespace Go.Proofs.YtmkalnljclhigaaGreat.Ch
set_option linter.unusedVariables false
set_option linter.unusedSimpArgs false
set_option linter.unnecessarySimpa false
open Go.RowKit Go.Proofs.YtmkalnljclhigaaGreatK Go.Proofs.YtmkalnljclhigaaGreat.XCheckerChecks Go.Proofs.YtmkalnljclhigaaGreatW.PrintWords Go.Proofs.YtmkalnljclhigaaGreatW.PrintLast

theorem done_ok (w : World) (p : Option Addr) : Calls Tryz.prog 29 #[.pointer p, .int .i64 0] w fun e w' => e = .returned (.tuple #[.pointer p, .int .i64 0]) ∧ w' = w := by
  go_enter Tryz.func29, Tryz.ntmps29
  go_wp2
  refine bodyPost_ret (v := .tuple #[.pointer p, .int .i64 0]) (by simp [results, Tryz.results29, go_sem]) rfl ⟨rfl, rfl⟩
theorem done_err (w : World) (p : Option Addr) (e0 : Int) (he : e0 ≠ 0) : Calls Tryz.prog 29 #[.pointer p, .int .i64 e0] w fun e w' => e = .returned (.tuple #[.pointer none, .int .i64 e0]) ∧ w' = w := by
  have d1 : (e0 == 0) = false := beq_eq_false_iff_ne.2 he
  have d2 : decide (e0 = 0) = false := decide_eq_false he
  go_enter Tryz.func29, Tryz.ntmps29
  go_wp2
  refine bodyPost_ret (v := .tuple #[.pointer none, .int .i64 e0]) (by simp [results, Tryz.results29, go_sem]) rfl ⟨rfl, rfl⟩
end Go.Proofs.YtmkalnljclhigaaGreat.Ch

/-
  checker: the boxes' places (a map).
-/
namespace Go.Proofs.YtmkalnljclhigaaGreat.Ch
set_option linter.unusedVariables false
set_option linter.unusedSimpArgs false
set_option linter.unnecessarySimpa false
open Go.RowKit Go.Maps Go.Proofs.YtmkalnljclhigaaGreatK Go.Proofs.YtmkalnljclhigaaGreat.XCheckerChecks Go.Proofs.YtmkalnljclhigaaGreatW.PrintWords Go.Proofs.YtmkalnljclhigaaGreatW.PrintLast

theorem lawI : Keyed Tryz.prog 3 := int_keyed Tryz.underlying3
theorem zeroI (w : World) : (zeroValue 3).run Tryz.prog w = .ok (.int .i64 0) w := by kernel_rfl
/-- At m lies a map: T its values (0 where it has none), K its keys. -/
def Pl (w : World) (m n : Nat) (T : Int → Int) (K : Int → Bool) : Prop := ∃ D : DataW Unit, w.ownsMap Tryz.prog 3 (plainElem Tryz.prog 3) m n D ∧ IsMap D ∧ (∀ y, (Lit.int .i64 y).wf = true → D.atKey (.int .i64 y) (.lit (.int .i64 0)) = .lit (.int .i64 (T y))) ∧ ∀ y, (Lit.int .i64 y).wf = true → has D (.int .i64 y) = K y
theorem Pl.below {w w1 : World} {m n : Nat} {T : Int → Int} {K : Int → Bool} (h : Pl w m n T K) (hb : Below w.heap.size w w1) : Pl w1 m n T K := by
  obtain ⟨D, ho, hi, hD⟩ := h
  obtain ⟨es, clock, hm, hF, hs, hd⟩ := ho
  exact ⟨D, ⟨es, clock, block_on hb hm, hF, hs, hd⟩, hi, hD⟩
theorem Pl.made (w : World) : Pl (w.alloc (.map #[] 0)) w.heap.size 0 (fun _ => 0) (fun _ => false) := ⟨.map [], World.ownsMap_made _ _ _ _, isMap_empty, fun y _ => rfl, fun y _ => rfl⟩
theorem Pl.look {w : World} {m n : Nat} {T : Int → Int} {K : Int → Bool} (h : Pl w m n T K) (y : Int) (hy : (Lit.int .i64 y).wf = true) :
    (Instr.lookup 53 (.map (some m)) (.int .i64 y) true).run Tryz.prog w = .ok (.tuple #[.int .i64 (T y), .bool (K y)]) w := by
  obtain ⟨D, ho, hi, hD, hK⟩ := h
  obtain ⟨c, hrun, hat, _⟩ := ho.lookup_int (t := 53) lawI Tryz.underlying53 Tryz.underlying3 (zeroI _) (keyOf_int_mk Tryz.underlying3 hy)
  obtain ⟨v, ps, hrun2, hv⟩ := World.ownsMap.look_ok (t := 53) ho lawI Tryz.underlying53 (zeroI _) (plainElem_int Tryz.underlying3 (by decide)) (keyOf_int_mk Tryz.underlying3 hy)
  obtain ⟨c2, rfl, hc, hwc⟩ := plainElem_int_inv Tryz.underlying3 hv
  simp only [Prod.mk.injEq] at hc
  rw [hD y hy] at hc
  have : T y = c2 := by simpa using hc.1
  rw [this, ← hK y hy]
  exact hrun2
theorem Pl.put {w : World} {m n : Nat} {T : Int → Int} {K : Int → Bool} (h : Pl w m n T K) (hn : n < maxLen) (y v : Int) (hy : (Lit.int .i64 y).wf = true) (hv : (Lit.int .i64 v).wf = true) :
    ∃ w1, (Instr.mapUpdate 53 (.map (some m)) (.int .i64 y) (.int .i64 v)).run Tryz.prog w = .ok () w1 ∧ Pl w1 m (n + 1) (fun z => if z = y then v else T z) (fun z => if z = y then true else K z) ∧ w.grownBy w1 (some m) := by
  obtain ⟨D, ho, hi, hD, hK⟩ := h
  obtain ⟨w5, hrun, ho5, hg5⟩ := World.ownsMap.update (t := 53) ho lawI Tryz.underlying53 hn (keyOf_int_mk Tryz.underlying3 hy) (plainElem_int Tryz.underlying3 hv)
  refine ⟨w5, hrun, ⟨_, ho5, hi.put _ _, fun z hz => ?_, fun z hz => ?_⟩, hg5⟩
  · dsimp only
    by_cases e : z = y
    · subst e
      rw [if_pos rfl, atKey_put_same hi (by simp [WideAt.IsKeyLit])]
    · rw [if_neg e, atKey_put_other (by simpa using e), hD z hz]
  · dsimp only
    by_cases e : z = y
    · subst e
      rw [if_pos rfl, has_put_same hi (by simp [WideAt.IsKeyLit])]
    · rw [if_neg e, has_put_other (by simpa using e), hK z hz]
end Go.Proofs.YtmkalnljclhigaaGreat.Ch

/-
  checker: find.
-/
namespace Go.Proofs.YtmkalnljclhigaaGreat.Ch
set_option linter.unusedVariables false
set_option linter.unusedSimpArgs false
set_option linter.unnecessarySimpa false
open Go.RowKit Go.Maps Go.Proofs.YtmkalnljclhigaaGreatK Go.Proofs.YtmkalnljclhigaaGreat.XCheckerChecks Go.Proofs.YtmkalnljclhigaaGreatW.PrintWords Go.Proofs.YtmkalnljclhigaaGreatW.PrintLast

def nums (l : List S35) : List Int := l.map fun x => x.f0
/-- Where each number of ns is, from k on (0 where it is not). -/
def tOf : List Int → Int → Int
  | [], _ => 0
  | n :: ns, y => if n = y then 0 else if y ∈ ns then 1 + tOf ns y else 0
def kOf (ns : List Int) (y : Int) : Bool := decide (y ∈ ns)
theorem kOf_snoc (ns : List Int) (n : Int) : kOf (ns ++ [n]) = fun z => if z = n then true else kOf ns z := by
  funext z
  unfold kOf
  by_cases e : z = n
  · simp [e]
  · simp [e]
theorem tOf_snoc : ∀ (ns : List Int) (n : Int), n ∉ ns → tOf (ns ++ [n]) = fun z => if z = n then (ns.length : Int) else tOf ns z
  | [], n, _ => by
    funext z
    by_cases e : z = n
    · subst e; simp [tOf]
    · simp [tOf, e, Ne.symm e]
  | m :: ns, n, h => by
    have hn : n ∉ ns := fun e => h (List.mem_cons_of_mem _ e)
    have hm : m ≠ n := fun e => h (by rw [e]; exact List.mem_cons_self)
    have ih := tOf_snoc ns n hn
    funext z
    rw [List.cons_append, tOf, ih]
    by_cases e : z = n
    · subst e
      simp [hm]; omega
    · by_cases e2 : m = z
      · simp [tOf, e2, e]
      · simp [tOf, e2, e]
def FindP (w0 : World) (p m : Nat) (pc : Array Value) (l : List S35) (e : Ending) (w' : World) : Prop :=
  Below w0.heap.size w0 w' ∧ w'.heap[p]? = some (.cells pc 56 (0, 0)) ∧ (((nums l).Nodup ∧ e = .returned (.int .i64 0) ∧ Pl w' m l.length (tOf (nums l)) (kOf (nums l))) ∨ (¬ (nums l).Nodup ∧ e = .returned (.int .i64 51)))
end Go.Proofs.YtmkalnljclhigaaGreat.Ch

/-
  checker: find, the walk.
-/
namespace Go.Proofs.YtmkalnljclhigaaGreat.Ch
set_option linter.unusedVariables false
set_option linter.unusedSimpArgs false
set_option linter.unnecessarySimpa false
open Go.RowKit Go.Maps Go.Proofs.YtmkalnljclhigaaGreatK Go.Proofs.YtmkalnljclhigaaGreat.XCheckerChecks Go.Proofs.YtmkalnljclhigaaGreatW.PrintWords Go.Proofs.YtmkalnljclhigaaGreatW.PrintLast

theorem cells4 {w : World} {g : Nat} {a0 a1 a2 a3 : Value} {t : TypeId} (h : w.heap[g]? = some (.cells #[a0, a1, a2, a3] t (0, 0))) : w.cell? ⟨g, 0, none⟩ = some a0 ∧ w.cell? ⟨g, 1, none⟩ = some a1 ∧ w.cell? ⟨g, 2, none⟩ = some a2 ∧ w.cell? ⟨g, 3, none⟩ = some a3 := by refine ⟨?_, ?_, ?_, ?_⟩ <;> simp [World.cell?, h]
set_option maxRecDepth 100000 in
set_option maxHeartbeats 4000000 in
theorem find_any (w0 w : World) (p m : Nat) (A : Option Addr) (c : Nat) (l : List S35) (c2 c3 : Value) (hb : Below w0.heap.size w0 w) (hp : w.heap[p]? = some (.cells #[.slice A l.length c, .map (some m), c2, c3] 56 (0, 0))) (hm : w0.heap.size ≤ m) (hr : Kd.C k35 w0 A l.length l) (hc : l.length ≤ c) (hl : l.length ≤ 256) (hnum : ∀ x ∈ l, 1 ≤ x.f0 ∧ x.f0 ≤ 9999) (hP : Pl w m 0 (tOf []) (kOf [])) :
    Calls Tryz.prog 25 #[.pointer (some ⟨p, 0, none⟩)] w (FindP w0 p m #[.slice A l.length c, .map (some m), c2, c3] l) := by
  obtain ⟨z0, z1, z2, z3⟩ := cells4 hp
  have HB0 := Lib.hid hb
  have HC0 := Lib.hid hp
  have HR := Lib.hid hr
  have HN := Lib.hid hnum
  have HP0 := Lib.hid hP
  clear hb hp hr hnum hP
  go_enter Tryz.func25, Tryz.ntmps25
  go_wp2
  clear z0 z1 z2 z3
  go_loopw [12] (fun i wr => ∃ k : Nat, k ≤ l.length ∧ i = .int .i64 k ∧ Hid (Below w0.heap.size w0 wr) ∧ Hid (wr.heap[p]? = some (.cells #[.slice A l.length c, .map (some m), c2, c3] 56 (0, 0))) ∧ Hid (Pl wr m k (tOf (nums (l.take k))) (kOf (nums (l.take k)))) ∧ Hid ((nums (l.take k)).Nodup)) (fun i _ => l.length - (intOf i).toNat)
  case atStart => exact ⟨0, Nat.zero_le _, rfl, HB0, HC0, by rw [List.take_zero]; exact HP0, by rw [List.take_zero]; exact Lib.hid List.nodup_nil⟩
  case round =>
    obtain ⟨k, hk, rfl, HB, HC, HP, HD⟩ := hrel
    by_cases hlt : k < l.length
    · obtain ⟨ad0, A4, c4, A5, c5, e0, q0, q1, q2, q3, q4, q5, g3, g4, g5, g6⟩ := at_T35 (Kd.C_below HR.out HB.out) (k : Int) (by omega) (by omega)
      have hy : rd_T35 l (k : Int) = l[k] := by unfold rd_T35; rw [Int.toNat_natCast, List.getD_eq_getElem?_getD, List.getElem?_eq_getElem hlt]; rfl
      rw [hy] at q0 q1 q2 q3 q4 q5
      rw [Int.toNat_natCast] at q0 q1 q2 q3 q4 q5
      clear g3 g4 g5 g6 hy
      have hns : nums (l.take (k + 1)) = nums (l.take k) ++ [l[k].f0] := by
        unfold nums; rw [List.take_succ_eq_append_getElem hlt, List.map_append]; rfl
      have hbig := HN.out _ (List.getElem_mem hlt)
      have hsub : (nums (l.take (k + 1))).Sublist (nums l) := (List.take_sublist _ _).map _
      have hnl : (nums (l.take k)).length = k := by unfold nums; simp; omega
      have hwf : (Lit.int .i64 l[k].f0).wf = true := WalkArith.wf_i64 ⟨by omega, by omega⟩
      cases e0
      generalize nums (l.take k) = ns at *
      obtain ⟨ns1, hn1⟩ : ∃ x, nums (l.take (k + 1)) = x := ⟨_, rfl⟩
      rw [hn1] at hns hsub
      have HN1 := Lib.hid hn1
      clear hn1
      generalize l[k] = y at *
      obtain ⟨z0, z1, z2, z3⟩ := cells4 HC.out
      have hk2 : (Lit.int .i64 (k : Int)).wf = true := WalkArith.wf_i64 ⟨by omega, by omega⟩
      obtain ⟨wa, hwa⟩ : ∃ W : World, W = wr.alloc (.cells #[.int .i64 y.f0, .int .i64 y.f1.f0, .int .i64 y.f1.f1, .string y.f1.f2, .slice A4 y.f1.f3.length c4, .slice A5 y.f1.f4.length c5] 35) := ⟨_, rfl⟩
      have hba : Below wr.heap.size wr wa := by rw [hwa]; exact s_alloc (Below.refl _ _) _
      have hxa : wa.heap[wr.heap.size]? = some (.cells #[.int .i64 y.f0, .int .i64 y.f1.f0, .int .i64 y.f1.f1, .string y.f1.f2, .slice A4 y.f1.f3.length c4, .slice A5 y.f1.f4.length c5] 35 (0, 0)) := by rw [hwa]; exact Array.getElem?_push_size
      have HBA := Lib.hid (s_trans HB.out hba)
      have HPA := Lib.hid (HP.out.below hba)
      have HCA := Lib.hid (block_on hba HC.out)
      have HXA := Lib.hid hxa
      have HNS := Lib.hid hns
      have HSUB := Lib.hid hsub
      have HNL := Lib.hid hnl
      clear hba hxa hns hsub hnl
      go_upto_region 4 with fail
      rw [← hwa]
      clear hwa z0 z1 z2 z3 q0 q1 q2 q3 q4 q5
      obtain ⟨z0, z1, z2, z3⟩ := cells4 HCA.out
      obtain ⟨q0, q1, q2, q3, q4, q5⟩ := cells6 HXA.out
      have hlook : ∀ W : World, W = wa ∨ W = wa.drew → (Instr.lookup 53 (.map (some m)) (.int .i64 y.f0) true).run Tryz.prog W = .ok (.tuple #[.int .i64 (tOf ns y.f0), .bool (kOf ns y.f0)]) W := fun W h => by
        rcases h with rfl | rfl
        · exact HPA.out.look _ hwf
        · exact Pl.look (w := wa.drew) HPA.out _ hwf
      have hl1 := hlook _ (.inl rfl)
      have hl2 := hlook _ (.inr rfl)
      clear hlook
      go_region
      clear hl1 hl2
      have HBD := Lib.hid (show Below w0.heap.size w0 wa.drew from s_drew HBA.out)
      have HPD := Lib.hid (show Pl wa.drew m k (tOf ns) (kOf ns) from HPA.out)
      have HCD := Lib.hid (show wa.drew.heap[p]? = some (.cells #[.slice (some ad0) l.length c, .map (some m), c2, c3] 56 (0, 0)) from HCA.out)
      have HXD := Lib.hid (show wa.drew.heap[wr.heap.size]? = some (.cells #[.int .i64 y.f0, .int .i64 y.f1.f0, .int .i64 y.f1.f1, .string y.f1.f2, .slice A4 y.f1.f3.length c4, .slice A5 y.f1.f4.length c5] 35 (0, 0)) from HXA.out)
      clear z0 z1 z2 z3 q0 q1 q2 q3 q4 q5
      generalize wa.drew = wd at *
      obtain ⟨z0, z1, z2, z3⟩ := cells4 HCD.out
      obtain ⟨q0, q1, q2, q3, q4, q5⟩ := cells6 HXD.out
      generalize tOf ns y.f0 = tv at *
      generalize hK : kOf ns y.f0 = KB at *
      have HK := Lib.hid hK
      clear hK
      cases KB with
      | true =>
        go_wp2
        go_ret
        refine ⟨HBD.out, HCD.out, .inr ⟨fun h => ?_, rfl⟩⟩
        have h2 := List.Sublist.nodup HSUB.out h
        rw [HNS.out] at h2
        have h3 := HK.out
        unfold kOf at h3
        have h4 := of_decide_eq_true h3
        exact (List.nodup_append.1 h2).2.2 _ h4 _ (List.mem_singleton.2 rfl) rfl
      | false =>
        go_upto_region 7 with fail
        obtain ⟨w5, hrun, hP5, hg5⟩ := Pl.put (w := wd.drew) HPD.out (by unfold maxLen; omega) y.f0 (k : Int) hwf hk2
        have hpm : p ≠ m := by
          intro e
          obtain ⟨D, ⟨es, clock, hmm, _⟩, _⟩ := HPD.out
          rw [← e, HCD.out] at hmm
          cases hmm
        have hB5 : Below w0.heap.size w0 w5 := ⟨hg5.os.trans HBD.out.os, hg5.tape.trans (s_drew HBD.out).tape, hg5.output.trans HBD.out.output, Nat.le_trans HBD.out.size hg5.size, fun j hj => (hg5.block j (Nat.lt_of_lt_of_le hj HBD.out.size) (fun e => by have := Option.some.inj e; omega)).trans (HBD.out.block j hj)⟩
        have hC5 := (hg5.block p (block_lt HCD.out) (fun e => hpm (Option.some.inj e))).trans HCD.out
        have hnn : y.f0 ∉ ns := fun e => by
          have h3 := HK.out
          unfold kOf at h3
          rw [decide_eq_true e] at h3
          cases h3
        have hns2 := HNS.out
        have hP6 : Pl w5 m (k + 1) (tOf ns1) (kOf ns1) := by
          rw [hns2, tOf_snoc _ _ hnn, kOf_snoc, HNL.out]
          exact hP5
        have hD6 : ns1.Nodup := by
          rw [hns2]
          exact List.nodup_append.2 ⟨HD.out, by simp, fun a ha b hb e => hnn (by rw [← List.mem_singleton.1 hb, ← e]; exact ha)⟩
        have HB5 := Lib.hid hB5
        have HC5 := Lib.hid hC5
        have HP6 := Lib.hid hP6
        have HD6 := Lib.hid hD6
        clear hB5 hC5 hP6 hD6 hP5 hg5 hns2 hnn hpm
        go_region
        go_wp2
        go_roundw
        case rel => exact ⟨k + 1, by omega, by go_num, HB5, HC5, by rw [HN1.out]; exact HP6, by rw [HN1.out]; exact HD6⟩
        case measure => simp [intOf]; omega
    · obtain rfl : k = l.length := by omega
      obtain ⟨z0, z1, z2, z3⟩ := cells4 HC.out
      rw [List.take_length] at HP HD
      go_wp2
      go_ret
      exact ⟨HB.out, HC.out, .inl ⟨HD.out, rfl, HP.out⟩⟩
end Go.Proofs.YtmkalnljclhigaaGreat.Ch

/-
  checker: need, the plain part; sorting a row of one's own.
-/
namespace Go.Proofs.YtmkalnljclhigaaGreat.Ch
set_option linter.unusedVariables false
set_option linter.unusedSimpArgs false
set_option linter.unnecessarySimpa false
open Go.RowKit Go.Maps Go.Proofs.YtmkalnljclhigaaGreatK Go.Proofs.YtmkalnljclhigaaGreat.XCheckerChecks Go.Proofs.YtmkalnljclhigaaGreatW.PrintWords Go.Proofs.YtmkalnljclhigaaGreatW.PrintLast Go.Sort

theorem sort_own {w0 W : World} {v : Value} {l : List Int} (hb : Below w0.heap.size w0 W) (h : W.ownsRow w0.heap.size 3 1 v l.length (l.map (Value.int .i64))) (hl : l.length ≤ 1000000) :
    Calls Tryz.prog 51 #[v] W fun e w' => e = .returned (.tuple #[]) ∧ w'.ownsRow w0.heap.size 3 1 v (sortI l).length ((sortI l).map (Value.int .i64)) ∧ Below w0.heap.size w0 w' := by
  rcases h.2 with ⟨rfl, hz⟩ | ⟨gb, cap, cur, rfl, hge, hbk, hle, hcap, hcs, htk⟩
  · have hl0 : l = [] := List.eq_nil_of_length_eq_zero hz
    subst hl0
    have hs0 : sortI [] = [] := List.eq_nil_of_length_eq_zero (by rw [sortI_len]; rfl)
    rw [hs0]
    refine (Tryz.slices_Sort_int_none none 0 W).mono ?_
    rintro e w' ⟨rfl, rfl⟩
    exact ⟨rfl, h, hb⟩
  · rw [Nat.mul_one] at hcs htk
    refine (Tryz.slices_Sort_int gb 0 cap l W (holds_of_blockI hbk htk) (block_lt hbk) (by omega)).mono ?_
    rintro e w' ⟨rfl, nd, os, rfl⟩
    have hgr := grownBy_sortedI (w := W) (g := gb) (n := nd) (os := os) (sortI l).toArray
    have hr := ownsRow_sortedI (n := nd) (os := os) (ss := l) (ts := sortI l) (sortI_len l) hge hbk hle hcap (by omega : cur.size = cap * 1)
    refine ⟨rfl, ?_, grown_low hb hgr hge⟩
    rw [sortI_len]
    exact hr
theorem own_at {w : World} {base n j : Nat} {e : TypeId} {v : Value} {xs : List Value} (h : w.ownsRow base e 1 v n xs) (hj : j < n) : ∃ g cap u, v = .slice (some ⟨g, 0, none⟩) n cap ∧ n ≤ cap ∧ base ≤ g ∧ g < w.heap.size ∧ xs[j]? = some u ∧ w.cell? ⟨g, j, none⟩ = some u := by
  obtain ⟨hlen, hh⟩ := h
  rcases hh with ⟨rfl, h0⟩ | ⟨g, cap, cur, rfl, hb, hg, hn, hc, hs, ht⟩
  · omega
  · have hjx : j < xs.length := by omega
    refine ⟨g, cap, xs[j], rfl, hn, hb, block_lt hg, List.getElem?_eq_getElem hjx, ?_⟩
    have e1 : cur.toList[j]? = some xs[j] := by
      have h2 : (cur.toList.take (n * 1))[j]? = xs[j]? := by rw [ht]
      rw [List.getElem?_take_of_lt (by omega), List.getElem?_eq_getElem hjx] at h2
      exact h2
    rw [Array.getElem?_toList] at e1
    simp [World.cell?, hg, e1]
theorem own_weak {w : World} {b b' n s : Nat} {e : TypeId} {v : Value} {xs : List Value} (h : w.ownsRow b e s v n xs) (hb : b' ≤ b) : w.ownsRow b' e s v n xs := by
  refine ⟨h.1, ?_⟩
  rcases h.2 with h0 | ⟨g, cap, cur, rfl, hbb, rest⟩
  · exact .inl h0
  · exact .inr ⟨g, cap, cur, rfl, Nat.le_trans hb hbb, rest⟩
theorem own_block {w : World} {b n s q : Nat} {e : TypeId} {v : Value} {xs : List Value} (h : w.ownsRow b e s v n xs) (hq : v.ownBlock = some q) : b ≤ q ∧ ∃ cur, w.heap[q]? = some (.cells cur e (0, 0)) := by
  rcases h.2 with ⟨rfl, _⟩ | ⟨g', cap, cur, rfl, hb, hgg, _⟩
  · cases hq
  · obtain rfl : g' = q := Option.some.inj hq
    exact ⟨hb, cur, hgg⟩
/-- A row stays, if what changes is no block of its kind. -/
theorem own_far {w w' : World} {b n s : Nat} {e : TypeId} {v : Value} {xs : List Value} {row : Option Nat} (h : w.ownsRow b e s v n xs) (hg : w.grownBy w' row) (hne : ∀ q, row = some q → ∀ cur, w.heap[q]? ≠ some (.cells cur e (0, 0))) : w'.ownsRow b e s v n xs := by
  refine World.ownsRow.kept h hg ?_
  cases hv : v.ownBlock with
  | none => exact .inl rfl
  | some q =>
    refine .inr fun he => ?_
    obtain ⟨_, cur, hc⟩ := own_block h hv
    exact hne q he.symm cur hc
theorem own_on {w w' : World} {b n s : Nat} {e : TypeId} {v : Value} {xs : List Value} (h : w.ownsRow b e s v n xs) (hb : Below w.heap.size w w') : w'.ownsRow b e s v n xs :=
  World.ownsRow.kept (row := none) h ⟨hb.os, hb.tape, hb.output, hb.size, fun k hk _ => hb.block k hk⟩ (by cases v.ownBlock <;> simp)
def intV (l : List Nat) : List Value := l.map fun n => .int .i64 (n : Nat)
theorem intV_of {l : List Int} (h : ∀ x ∈ l, 0 ≤ x) : l.map (Value.int .i64) = intV (l.map Int.toNat) := by
  unfold intV
  rw [List.map_map]
  refine List.map_congr_left fun x hx => ?_
  simp [Int.toNat_of_nonneg (h x hx)]
/-- What the boxes need, as it lies in memory. -/
structure NeedsIn (w : World) (base : Nat) (v : Value) (ns : List (List Nat)) : Prop where
  row : ∃ vs : List Value, w.ownsRow base 42 1 v ns.length vs ∧ ∀ i (h : i < ns.length), ∃ u, vs[i]? = some u ∧ w.ownsRow base 3 1 u ns[i].length (intV ns[i])
theorem NeedsIn.nil (w : World) (base : Nat) : NeedsIn w base (.slice none 0 0) [] := ⟨[], World.ownsRow_nil _ _ _ _, fun i h => absurd h (by simp)⟩
theorem NeedsIn.below {w w' : World} {base : Nat} {v : Value} {ns : List (List Nat)} (h : NeedsIn w base v ns) (hb : Below w.heap.size w w') : NeedsIn w' base v ns := by
  obtain ⟨vs, h1, h2⟩ := h.row
  exact ⟨vs, own_on h1 hb, fun i hi => by obtain ⟨u, hu, ho⟩ := h2 i hi; exact ⟨u, hu, own_on ho hb⟩⟩
theorem NeedsIn.far {w w' : World} {base p : Nat} {v : Value} {ns : List (List Nat)} {C : Array Value} (h : NeedsIn w base v ns) (hg : w.grownBy w' (some p)) (hp : w.heap[p]? = some (.cells C 56 (0, 0))) : NeedsIn w' base v ns := by
  obtain ⟨vs, h1, h2⟩ := h.row
  have hne : ∀ e : TypeId, e ≠ 56 → ∀ q, some p = some q → ∀ cur, w.heap[q]? ≠ some (.cells cur e (0, 0)) := fun e he q hq cur hc => by
    obtain rfl := Option.some.inj hq
    exact ty_ne hc hp he rfl
  exact ⟨vs, own_far h1 hg (hne _ (by decide)), fun i hi => by obtain ⟨u, hu, ho⟩ := h2 i hi; exact ⟨u, hu, own_far ho hg (hne _ (by decide))⟩⟩
theorem NeedsIn.snoc {w w' : World} {base : Nat} {v v' u : Value} {ns : List (List Nat)} {n : List Nat} {vs : List Value} (h1 : w.ownsRow base 42 1 v ns.length vs) (h2 : ∀ i (h : i < ns.length), ∃ u, vs[i]? = some u ∧ w.ownsRow base 3 1 u ns[i].length (intV ns[i])) (hu : w.ownsRow base 3 1 u n.length (intV n)) (hg : w.grownBy w' v.ownBlock) (ho : w'.ownsRow base 42 1 v' (ns.length + 1) (vs ++ [u])) : NeedsIn w' base v' (ns ++ [n]) := by
  have hne : ∀ q, v.ownBlock = some q → ∀ cur, w.heap[q]? ≠ some (.cells cur 3 (0, 0)) := fun q hq cur hc => by
    obtain ⟨_, cur2, hc2⟩ := own_block h1 hq
    exact ty_ne hc hc2 (by decide) rfl
  have hvl : vs.length = ns.length := by have := h1.1; omega
  refine ⟨vs ++ [u], by rw [List.length_append, List.length_singleton]; exact ho, fun i hi => ?_⟩
  rw [List.length_append, List.length_singleton] at hi
  by_cases e : i < ns.length
  · obtain ⟨x, hx, hox⟩ := h2 i e
    refine ⟨x, by rw [List.getElem?_append_left (by omega)]; exact hx, ?_⟩
    rw [List.getElem_append_left e]
    exact own_far hox hg hne
  · obtain rfl : i = ns.length := by omega
    refine ⟨u, by rw [List.getElem?_append_right (by omega), hvl]; simp, ?_⟩
    rw [List.getElem_append_right (Nat.le_refl _)]
    simp only [Nat.sub_self, List.getElem_cons_zero]
    exact own_far hu hg hne
theorem tOf_nonneg : ∀ (ns : List Int) (y : Int), 0 ≤ tOf ns y
  | [], _ => by simp [tOf]
  | n :: ns, y => by
    have := tOf_nonneg ns y
    rw [tOf]
    split
    · omega
    · split <;> omega
theorem tOf_lt : ∀ (ns : List Int) (y : Int), y ∈ ns → tOf ns y < ns.length
  | [], _, h => by cases h
  | n :: ns, y, h => by
    rw [tOf]
    by_cases e : n = y
    · rw [if_pos e, List.length_cons]; omega
    · have hm : y ∈ ns := by
        rcases List.mem_cons.1 h with h | h
        · exact absurd h.symm e
        · exact h
      have := tOf_lt ns y hm
      rw [if_neg e, if_pos hm, List.length_cons]; omega
noncomputable def needZ (ns : List Int) (x : S35) : List Int := sortI ((refsR x.f1).map (tOf ns))
noncomputable def needN (ns : List Int) (x : S35) : List Nat := (needZ ns x).map Int.toNat
noncomputable def okN (ns : List Int) (x : S35) : Bool := (refsR x.f1).all (kOf ns)
theorem needZ_mem {ns : List Int} {x : S35} {z : Int} (h : z ∈ needZ ns x) : 0 ≤ z := by
  unfold needZ sortI at h
  rw [List.mem_mergeSort] at h
  obtain ⟨y, _, rfl⟩ := List.mem_map.1 h
  exact tOf_nonneg _ _
theorem needN_lt {ns : List Int} {x : S35} (ho : okN ns x = true) {z : Nat} (h : z ∈ needN ns x) : z < ns.length := by
  unfold needN at h
  obtain ⟨y, hy, rfl⟩ := List.mem_map.1 h
  have hy2 := hy
  unfold needZ sortI at hy
  rw [List.mem_mergeSort] at hy
  obtain ⟨r, hr, rfl⟩ := List.mem_map.1 hy
  have hk := List.all_eq_true.1 ho r hr
  unfold kOf at hk
  have := tOf_lt ns r (of_decide_eq_true hk)
  have := tOf_nonneg ns r
  omega
theorem needV (ns : List Int) (x : S35) : (needZ ns x).map (Value.int .i64) = intV (needN ns x) := intV_of fun _ h => needZ_mem h
theorem needN_len (ns : List Int) (x : S35) : (needN ns x).length = (refsR x.f1).length := by
  unfold needN needZ
  rw [List.length_map, sortI_len, List.length_map]
theorem refsR_le (x : S33) : (refsR x).length ≤ (refsB x).length := by
  unfold refsR
  split
  · exact Nat.le_trans (Lib.compact_length_le _) (by rw [sortI_len]; exact Nat.le_refl _)
  · simp
/-- After need: either all is known, and what is needed lies in the plan, or not. -/
def NeedP (w0 : World) (p m : Nat) (c0 c3 : Value) (l : List S35) (ns : List Int) (e : Ending) (w' : World) : Prop :=
  Below w0.heap.size w0 w' ∧ ((l.all (okN ns) = true ∧ e = .returned (.int .i64 0) ∧ ∃ v, w'.heap[p]? = some (.cells #[c0, .map (some m), v, c3] 56 (0, 0)) ∧ NeedsIn w' w0.heap.size v (l.map (needN ns)) ∧ Pl w' m l.length (tOf ns) (kOf ns)) ∨ (l.all (okN ns) = false ∧ e = .returned (.int .i64 83)))
end Go.Proofs.YtmkalnljclhigaaGreat.Ch

/-
  checker: need, the walk.
-/
namespace Go.Proofs.YtmkalnljclhigaaGreat.Ch
set_option linter.unusedVariables false
set_option linter.unusedSimpArgs false
set_option linter.unnecessarySimpa false
open Go.RowKit Go.Maps Go.Proofs.YtmkalnljclhigaaGreatK Go.Proofs.YtmkalnljclhigaaGreat.XCheckerChecks Go.Proofs.YtmkalnljclhigaaGreatW.PrintWords Go.Proofs.YtmkalnljclhigaaGreatW.PrintLast Go.Sort

theorem infoS : (Tryz.prog.info? 42).map (fun i => (i.zero, i.size, i.bytes)) = some (some (.slice none 0 0), 1, 24) := by kernel_rfl
theorem take_all {l : List S35} {ns : List Int} {k : Nat} (h : k < l.length) : (l.take (k + 1)).all (okN ns) = ((l.take k).all (okN ns) && okN ns l[k]) := by
  rw [List.take_succ_eq_append_getElem h, List.all_append]
  simp
theorem map_intV (l : List Int) (ns : List Int) (j : Nat) (h : j < l.length) : ((l.take (j + 1)).map (tOf ns)).map (Value.int .i64) = ((l.take j).map (tOf ns)).map (Value.int .i64) ++ [.int .i64 (tOf ns l[j])] := by
  rw [List.take_succ_eq_append_getElem h, List.map_append, List.map_append]
  rfl
theorem take_allK (r : List Int) (ns : List Int) (j : Nat) (h : j < r.length) : (r.take (j + 1)).all (kOf ns) = ((r.take j).all (kOf ns) && kOf ns r[j]) := by
  rw [List.take_succ_eq_append_getElem h, List.all_append]
  simp
theorem low_grow {w0 w w1 : World} {n s : Nat} {e : TypeId} {v : Value} {xs : List Value} (hb : Below w0.heap.size w0 w) (h : w.ownsRow w0.heap.size e s v n xs) (hg : w.grownBy w1 v.ownBlock) : Below w0.heap.size w0 w1 :=
  ⟨hg.os.trans hb.os, hg.tape.trans hb.tape, hg.output.trans hb.output, Nat.le_trans hb.size hg.size, fun k hk => (hg.block k (Nat.lt_of_lt_of_le hk hb.size) (fun e => by have := (own_block h e.symm).1; omega)).trans (hb.block k hk)⟩
theorem Pl.stay {w w1 : World} {m n : Nat} {T : Int → Int} {K : Int → Bool} (h : Pl w m n T K) (hb : w1.heap[m]? = w.heap[m]?) : Pl w1 m n T K := by
  obtain ⟨D, ho, hi, hD⟩ := h
  obtain ⟨es, clock, hm, hF, hs, hd⟩ := ho
  exact ⟨D, ⟨es, clock, hb.trans hm, hF, hs, hd⟩, hi, hD⟩
theorem Pl.obj {w : World} {m n : Nat} {T : Int → Int} {K : Int → Bool} (h : Pl w m n T K) : m < w.heap.size ∧ ∀ C t f, w.heap[m]? ≠ some (.cells C t f) := by
  obtain ⟨D, ho, hi, hD⟩ := h
  obtain ⟨es, clock, hm, hF, hs, hd⟩ := ho
  exact ⟨block_lt hm, fun C t f h => by rw [h] at hm; cases hm⟩
theorem set_grown (w : World) (g i : Nat) (v : Value) : w.grownBy (w.setCell ⟨g, i, none⟩ v) (some g) := ⟨rfl, rfl, rfl, by simp, fun j _ hk => Below.heap_setCell _ _ _ _ (fun e => hk (by rw [e]))⟩
/-- What a round of need leaves. -/
structure NeedR (w0 w : World) (p m : Nat) (c0 c3 v : Value) (n : Nat) (ns : List Int) (nl : List (List Nat)) : Prop where
  low : Below w0.heap.size w0 w
  plan : w.heap[p]? = some (.cells #[c0, .map (some m), v, c3] 56 (0, 0))
  map : Pl w m n (tOf ns) (kOf ns)
  needs : NeedsIn w w0.heap.size v nl
theorem NeedR.below {w0 w w1 : World} {p m : Nat} {c0 c3 v : Value} {n : Nat} {ns : List Int} {nl : List (List Nat)} (h : NeedR w0 w p m c0 c3 v n ns nl) (hb : Below w.heap.size w w1) : NeedR w0 w1 p m c0 c3 v n ns nl := ⟨s_trans h.low hb, block_on hb h.plan, h.map.below hb, h.needs.below hb⟩
theorem NeedR.step {w0 w w1 : World} {p m : Nat} {c0 c3 v v' u : Value} {n : Nat} {ns : List Int} {nl : List (List Nat)} {q : List Nat} {vs : List Value} (h : NeedR w0 w p m c0 c3 v n ns nl) (hp : w0.heap.size ≤ p) (h1 : w.ownsRow w0.heap.size 42 1 v nl.length vs) (h2 : ∀ i (h : i < nl.length), ∃ u, vs[i]? = some u ∧ w.ownsRow w0.heap.size 3 1 u nl[i].length (intV nl[i])) (hu : w.ownsRow w0.heap.size 3 1 u q.length (intV q)) (hg : w.grownBy w1 v.ownBlock) (ho : w1.ownsRow w0.heap.size 42 1 v' (nl.length + 1) (vs ++ [u])) :
    w1.heap[p]? = some (.cells #[c0, .map (some m), v, c3] 56 (0, 0)) ∧ NeedR w0 (w1.setCell ⟨p, 2, none⟩ v') p m c0 c3 v' n ns (nl ++ [q]) := by
  have hb1 := low_grow h.low h1 hg
  have hnp : some p ≠ v.ownBlock := fun e => by
    obtain ⟨_, cur, hc⟩ := own_block h1 e.symm
    exact ty_ne h.plan hc (by decide) rfl
  have hp1 := (hg.block p (block_lt h.plan) hnp).trans h.plan
  have hn1 := NeedsIn.snoc h1 h2 hu hg ho
  have hnm : some m ≠ v.ownBlock := fun e => by
    obtain ⟨_, cur, hc⟩ := own_block h1 e.symm
    exact h.map.obj.2 _ _ _ hc
  have hm1 := h.map.stay (hg.block m h.map.obj.1 hnm)
  have hmp : m ≠ p := fun e => by
    have := h.map.obj.2
    rw [e] at this
    exact this _ _ _ h.plan
  refine ⟨hp1, s_set hb1 _ _ hp, ?_, hm1.stay (Below.heap_setCell _ _ _ _ hmp), hn1.far (set_grown _ _ _ _) hp1⟩
  have := Go.Joins.block_setCell (i := 2) hp1 v'
  simpa using this
set_option maxRecDepth 100000 in
set_option maxHeartbeats 4000000 in
theorem need_any (w0 w : World) (p m : Nat) (A : Option Addr) (c : Nat) (l : List S35) (c3 : Value) (hb : Below w0.heap.size w0 w) (hp : w.heap[p]? = some (.cells #[.slice A l.length c, .map (some m), .slice none 0 0, c3] 56 (0, 0))) (hpge : w0.heap.size ≤ p) (hr : Kd.C k35 w0 A l.length l) (hc : l.length ≤ c) (hl : l.length ≤ 256) (hsm : ∀ x ∈ l, Small x.f1 ∧ (refsB x.f1).length ≤ 1000000) (hwfr : ∀ x ∈ l, ∀ r ∈ refsR x.f1, (Lit.int .i64 r).wf = true) (hP : Pl w m l.length (tOf (nums l)) (kOf (nums l))) :
    Calls Tryz.prog 26 #[.pointer (some ⟨p, 0, none⟩)] w (NeedP w0 p m (.slice A l.length c) c3 l (nums l)) := by
  obtain ⟨z0, z1, z2, z3⟩ := cells4 hp
  obtain ⟨i0, hi0, hz0, hzs, hzb⟩ := info_parts infoI
  obtain ⟨j0, hj0, jz0, jzs, jzb⟩ := info_parts infoS
  have HB0 := Lib.hid hb
  have HC0 := Lib.hid hp
  have HR := Lib.hid hr
  have HS := Lib.hid hsm
  have HW := Lib.hid hwfr
  have HP0 := Lib.hid hP
  have hnl : (nums l).length = l.length := by simp [nums]
  generalize nums l = ns at *
  have HNL := Lib.hid hnl
  clear hb hp hr hsm hP hnl hwfr
  go_enter Tryz.func26, Tryz.ntmps26
  go_wp2
  clear z0 z1 z2 z3
  go_loopw [15] (fun i wr => ∃ (k : Nat) (v : Value), k ≤ l.length ∧ i = .int .i64 k ∧ Hid (Below w0.heap.size w0 wr) ∧ Hid (wr.heap[p]? = some (.cells #[.slice A l.length c, .map (some m), v, c3] 56 (0, 0))) ∧ Hid (Pl wr m l.length (tOf ns) (kOf ns)) ∧ Hid (NeedsIn wr w0.heap.size v ((l.take k).map (needN ns))) ∧ Hid ((l.take k).all (okN ns) = true)) (fun i _ => l.length - (intOf i).toNat)
  case atStart => exact ⟨0, _, Nat.zero_le _, rfl, HB0, HC0, HP0, by rw [List.take_zero]; exact Lib.hid (NeedsIn.nil _ _), by rw [List.take_zero]; exact Lib.hid rfl⟩
  case round =>
    obtain ⟨k, v, hk, rfl, HB, HC, HP, HN, HA⟩ := hrel
    by_cases hlt : k < l.length
    · obtain ⟨ad0, A4, c4, A5, c5, e0, q0, q1, q2, q3, q4, q5, g3, g4, g5, g6⟩ := at_T35 (Kd.C_below HR.out HB.out) (k : Int) (by omega) (by omega)
      have hy : rd_T35 l (k : Int) = l[k] := by unfold rd_T35; rw [Int.toNat_natCast, List.getD_eq_getElem?_getD, List.getElem?_eq_getElem hlt]; rfl
      rw [hy] at q0 q1 q2 q3 q4 q5 g3 g4 g5 g6
      rw [Int.toNat_natCast] at q0 q1 q2 q3 q4 q5
      clear hy
      have hta := take_all (ns := ns) hlt
      rw [HA.out, Bool.true_and] at hta
      have htm : (l.take (k + 1)).map (needN ns) = (l.take k).map (needN ns) ++ [needN ns l[k]] := by rw [List.take_succ_eq_append_getElem hlt, List.map_append]; rfl
      have hsy := HS.out _ (List.getElem_mem hlt)
      have hwy := HW.out _ (List.getElem_mem hlt)
      have hlen : ((l.take k).map (needN ns)).length = k := by simp; omega
      have hallK : okN ns l[k] = false → l.all (okN ns) = false := fun h => List.all_eq_false.2 ⟨_, List.getElem_mem hlt, by simp [h]⟩
      cases e0
      have HTA := Lib.hid hta
      have HTM := Lib.hid htm
      have HALL := Lib.hid hallK
      have HLEN := Lib.hid hlen
      clear hta htm hallK hlen
      generalize l[k] = y at *
      generalize (l.take k).map (needN ns) = nl at *
      have hrl := refsR_le y.f1
      have href := refs_any y.f1 hsy.1 hsy.2 A4 c4 A5 c5
      obtain ⟨wa, hwa⟩ : ∃ W : World, W = wr.alloc (.cells #[.int .i64 y.f0, .int .i64 y.f1.f0, .int .i64 y.f1.f1, .string y.f1.f2, .slice A4 y.f1.f3.length c4, .slice A5 y.f1.f4.length c5] 35) := ⟨_, rfl⟩
      have hba : Below wr.heap.size wr wa := by rw [hwa]; exact s_alloc (Below.refl _ _) _
      have hxa : wa.heap[wr.heap.size]? = some (.cells #[.int .i64 y.f0, .int .i64 y.f1.f0, .int .i64 y.f1.f1, .string y.f1.f2, .slice A4 y.f1.f3.length c4, .slice A5 y.f1.f4.length c5] 35 (0, 0)) := by rw [hwa]; exact Array.getElem?_push_size
      have HREF := Lib.hid (href wa (EIn.below ⟨g3, g4, g5, g6⟩ hba))
      have HBA := Lib.hid (s_trans HB.out hba)
      have HPA := Lib.hid (HP.out.below hba)
      have HNA := Lib.hid (HN.out.below hba)
      have HCA := Lib.hid (block_on hba HC.out)
      have HXA := Lib.hid hxa
      have HRL := Lib.hid (Nat.le_trans hrl hsy.2)
      have HWY := Lib.hid hwy
      obtain ⟨r, hrr⟩ : ∃ r, refsR y.f1 = r := ⟨_, rfl⟩
      rw [hrr] at HREF HRL HWY
      have HRR := Lib.hid hrr
      clear hba hsy hrl href g3 g4 g5 g6 hwy hrr
      go_upto_region 5 with fail
      rw [← hwa]
      clear hwa q0 q1 q2 q3 q4 q5 hxa
      obtain ⟨q0, q1, q2, q3, q4, q5⟩ := cells6 HXA.out
      go_wp2_with (go_at_call 50; refine HREF.out.mono ?_; rintro e w2 ⟨u, rfl, hown, hbr⟩; obtain ⟨ad', cap', rfl⟩ := own_slice hown; have HO2 := Lib.hid hown; have HB2 := Lib.hid hbr; clear hown hbr)
      clear q0 q1 q2 q3 q4 q5
      have HCB := Lib.hid (block_on HB2.out HCA.out)
      have HPB := Lib.hid (HPA.out.below HB2.out)
      have HNB := Lib.hid (HNA.out.below HB2.out)
      have HBB := Lib.hid (s_trans HBA.out HB2.out)
      go_loopw [5, 23] (fun v5 vi wi => ∃ (j : Nat), j ≤ r.length ∧ vi = .int .i64 j ∧ Hid (Below w2.heap.size w2 wi) ∧ Hid (wi.ownsRow w2.heap.size 3 1 v5 j (((r.take j).map (tOf ns)).map (Value.int .i64))) ∧ Hid ((r.take j).all (kOf ns) = true)) (fun _ i _ => r.length - (intOf i).toNat)
      case atStart => exact ⟨0, Nat.zero_le _, rfl, Lib.hid (Below.refl _ _), by rw [List.take_zero]; exact Lib.hid (World.ownsRow_nil _ _ _ _), by rw [List.take_zero]; exact Lib.hid rfl⟩
      case round =>
        obtain ⟨j, hj, rfl, HBi, HOi, HKi⟩ := hrel
        by_cases hjt : j < r.length
        · obtain ⟨gr, capr, ur, er, hrc, _, hgr, hur, q0⟩ := own_at (own_on HO2.out HBi.out) hjt
          rw [List.getElem?_map, List.getElem?_eq_getElem hjt] at hur
          obtain rfl := (Option.some.inj hur).symm
          cases er
          have hmv := map_intV r ns j hjt
          have htk := take_allK r ns j hjt
          have hw1 := HWY.out _ (List.getElem_mem hjt)
          have hall : kOf ns r[j] = false → r.all (kOf ns) = false := fun h => List.all_eq_false.2 ⟨_, List.getElem_mem hjt, by simp [h]⟩
          generalize r[j] = z at *
          have HMV := Lib.hid hmv
          have HTK := Lib.hid htk
          have HAL2 := Lib.hid hall
          clear hur hgr hmv htk hall
          obtain ⟨z0, z1, z2, z3⟩ := cells4 (block_on HBi.out HCB.out)
          go_upto_region 8 with fail
          have hPi := HPB.out.below HBi.out
          have hl1 := Pl.look (w := wr) hPi z hw1
          clear hPi
          go_upto_region 9 with fail
          clear hl1 q0 z0 z1 z2 z3
          have HBD := HBi
          have HOD := HOi
          generalize tOf ns z = tv at *
          generalize hK : kOf ns z = KB at *
          have HK := Lib.hid hK
          clear hK
          cases KB with
          | false =>
            go_wp2
            go_ret
            refine ⟨s_trans HBB.out HBD.out, .inr ⟨?_, rfl⟩⟩
            refine HALL.out ?_
            unfold okN
            rw [HRR.out]
            exact HAL2.out trivial
          | true =>
            obtain ⟨wy, hwy⟩ : ∃ W : World, W = wr.alloc (.cells #[.int .i64 tv] 3) := ⟨_, rfl⟩
            have hby : Below wr.heap.size wr wy := by rw [hwy]; exact s_alloc (Below.refl _ _) _
            have hOy := own_on HOD.out hby
            have hnews := int_news wr tv
            rw [← hwy] at hnews
            have hBy := s_trans HBD.out hby
            have hbase : w2.heap.size ≤ wy.heap.size := hBy.size
            have HOY := Lib.hid hOy
            have HNW := Lib.hid hnews
            have HBY := Lib.hid hBy
            have hrle := HRL.out
            obtain ⟨ad5, cap5, e5⟩ := own_slice hOy
            cases e5
            clear hby hOy hnews hBy
            go_upto_region 11 with fail
            go_wp2_with (at_builtin; (try rw [← hwy]); refine wpList_append_own_at _ rfl _ _ 42 rfl w2.heap.size 3 i0 _ 1 8 Tryz.underlying42 hi0 hz0 hzs hzb rfl (by decide) _ _ _ rfl HOY.out ⟨wr.heap.size, 0, none⟩ 1 1 [.int .i64 tv] rfl rfl HNW.out (by simp [Value.oneCell']) (by unfold maxLen; omega) (by omega) hbase ?_; intro v' w4 hown4 hg4 _ hat4; obtain ⟨ad', cap', rfl⟩ := own_slice hown4; have HO4 := Lib.hid hown4; have HG4 := Lib.hid hg4; clear hown4 hg4 hat4 hwy)
            go_roundw
            case rel => exact ⟨j + 1, by omega, by go_num, Lib.hid (low_grow HBY.out HOY.out HG4.out), by rw [HMV.out]; exact HO4, Lib.hid (by rw [HTK.out, HKi.out]; rfl)⟩
            case measure => simp [intOf]; omega
        · obtain rfl : j = r.length := by omega
          have hO := HOi.out
          have hKa := HKi.out
          rw [List.take_length] at hO hKa
          have hml : (r.map (tOf ns)).length = r.length := List.length_map ..
          have hsort := sort_own (w0 := w2) (l := r.map (tOf ns)) HBi.out (by rw [hml]; exact hO) (by rw [hml]; exact HRL.out)
          have hok : okN ns y = true := by unfold okN; rw [HRR.out]; exact hKa
          have hnz : sortI (r.map (tOf ns)) = needZ ns y := by unfold needZ; rw [HRR.out]
          have hnv := needV ns y
          rw [hnz, hnv] at hsort
          have hzl : (needZ ns y).length = (needN ns y).length := by unfold needN; rw [List.length_map]
          rw [hzl] at hsort
          have HTA2 := Lib.hid (HTA.out.trans hok)
          have HSO := Lib.hid hsort
          obtain ⟨ad5, cap5, rfl⟩ := own_slice hO
          clear hO hKa hml hsort hok hnz hnv hzl
          generalize needN ns y = nn at *
          go_upto_region 14 with (go_at_call 51; refine HSO.out.mono ?_; rintro e w5 ⟨rfl, ho5, hb5⟩; have HO5 := Lib.hid ho5; have HB5 := Lib.hid hb5; clear ho5 hb5)
          obtain ⟨wy, hwy⟩ : ∃ W : World, W = w5.alloc (.cells #[.slice ad5 r.length cap5] 42) := ⟨_, rfl⟩
          have hby : Below w5.heap.size w5 wy := by rw [hwy]; exact s_alloc (Below.refl _ _) _
          have hR5 : NeedR w0 wy p m (.slice (some ad0) l.length c) c3 v l.length ns nl := NeedR.below (NeedR.below ⟨HBB.out, HCB.out, HPB.out, HNB.out⟩ HB5.out) hby
          have hnews : ∀ j u, ([Value.slice ad5 r.length cap5])[j]? = some u → wy.cell? (Addr.add ⟨w5.heap.size, 0, none⟩ j) = some u := by rw [hwy]; exact cell_one_new _ _ _
          have hu5 := own_weak (own_on HO5.out hby) HBB.out.size
          obtain ⟨vs, hv1, hv2⟩ := hR5.needs.row
          obtain ⟨adn, capn, rfl⟩ := own_slice hv1
          obtain ⟨z0, z1, z2, z3⟩ := cells4 hR5.plan
          obtain ⟨y0, y1, y2, y3⟩ := cells4 (show w5.heap[p]? = some (.cells #[.slice (some ad0) l.length c, .map (some m), .slice adn nl.length capn, c3] 56 (0, 0)) from (NeedR.below ⟨HBB.out, HCB.out, HPB.out, HNB.out⟩ HB5.out : NeedR w0 w5 p m (.slice (some ad0) l.length c) c3 _ l.length ns nl).plan)
          have hlen : nl.length ≤ 255 := by have := HLEN.out; omega
          have hbase := hR5.low.size
          have HR5 := Lib.hid hR5
          have HNW := Lib.hid hnews
          have HV1 := Lib.hid hv1
          have HV2 := Lib.hid hv2
          have HU5 := Lib.hid hu5
          clear hby hR5 hnews hv1 hv2 hu5
          go_wp2_with (at_builtin; (try rw [← hwy]); refine wpList_append_own_at _ rfl _ _ 54 rfl w0.heap.size 42 j0 _ 1 24 Tryz.underlying54 hj0 jz0 jzs jzb rfl (by decide) _ _ _ rfl HV1.out ⟨w5.heap.size, 0, none⟩ 1 1 [.slice ad5 r.length cap5] rfl rfl HNW.out (by simp [Value.oneCell']) (by unfold maxLen; omega) (by omega) hbase ?_; intro v' w6 hown6 hg6 _ hat6; obtain ⟨adm, capm, rfl⟩ := own_slice hown6; have hst := NeedR.step HR5.out hpge HV1.out HV2.out HU5.out hg6 hown6; obtain ⟨x0, x1, x2, x3⟩ := cells4 hst.1; have of := blockFree hst.1 2; have HST := Lib.hid hst; clear hst hown6 hg6 hat6 hwy)
          go_roundw
          case rel => exact ⟨k + 1, _, by omega, by go_num, Lib.hid HST.out.2.low, Lib.hid HST.out.2.plan, Lib.hid HST.out.2.map, by rw [HTM.out]; exact Lib.hid HST.out.2.needs, HTA2⟩
          case measure => simp [intOf]; omega
    · obtain rfl : k = l.length := by omega
      have hA := HA.out
      have hN := HN.out
      rw [List.take_length] at hA hN
      obtain ⟨z0, z1, z2, z3⟩ := cells4 HC.out
      have HA2 := Lib.hid hA
      have HN2 := Lib.hid hN
      clear hA hN
      go_wp2
      go_ret
      exact ⟨HB.out, .inl ⟨HA2.out, rfl, v, HC.out, HN2.out, HP.out⟩⟩
end Go.Proofs.YtmkalnljclhigaaGreat.Ch

/-
  checker: arrange, the plain part.
-/
namespace Go.Proofs.YtmkalnljclhigaaGreat.Ch
set_option linter.unusedVariables false
set_option linter.unusedSimpArgs false
set_option linter.unnecessarySimpa false
open Go.RowKit Go.Maps Go.Proofs.YtmkalnljclhigaaGreatK Go.Proofs.YtmkalnljclhigaaGreat.XCheckerChecks Go.Proofs.YtmkalnljclhigaaGreatW.PrintWords Go.Proofs.YtmkalnljclhigaaGreatW.PrintLast Go.Sort

def lacks (ds : List Bool) (q : List Nat) : Bool := q.any fun x => !ds.getD x false
def ready (ds : List Bool) (q : List Nat) (i : Nat) : Bool := !ds.getD i false && !lacks ds q
def nextOf (ds : List Bool) : List (List Nat) → Nat → Option Nat
  | [], _ => none
  | q :: qs, i => if ready ds q i = true then some i else nextOf ds qs (i + 1)
def arrF (ns : List (List Nat)) : Nat → List Bool → List Nat → Option (List Nat)
  | 0, _, _ => none
  | f + 1, ds, o => if o.length < ns.length then match nextOf ds ns 0 with
      | none => none
      | some i => arrF ns f (ds.set i true) (o ++ [i])
    else some o
def arr (ns : List (List Nat)) : Option (List Nat) := arrF ns (ns.length + 1) (List.replicate ns.length false) []
/-- The world while arrange runs. -/
structure ArrR (w wr : World) (p D gd : Nat) (c0 c1 c2 vo : Value) (ds : List Bool) (o : List Nat) : Prop where
  grow : w.grownBy wr (some p)
  plan : wr.heap[p]? = some (.cells #[c0, c1, c2, vo] 56 (0, 0))
  low : p < w.heap.size
  done : Done wr D gd ds
  row : wr.ownsRow w.heap.size 3 1 vo o.length (intV o)
  geD : w.heap.size ≤ D
  geg : w.heap.size ≤ gd
theorem ArrR.below {w wr w1 : World} {p D gd : Nat} {c0 c1 c2 vo : Value} {ds : List Bool} {o : List Nat} (h : ArrR w wr p D gd c0 c1 c2 vo ds o) (hb : Below wr.heap.size wr w1) : ArrR w w1 p D gd c0 c1 c2 vo ds o :=
  ⟨⟨hb.os.trans h.grow.os, hb.tape.trans h.grow.tape, hb.output.trans h.grow.output, Nat.le_trans h.grow.size hb.size, fun k hk hn => (hb.block k (Nat.lt_of_lt_of_le hk h.grow.size)).trans (h.grow.block k hk hn)⟩, block_on hb h.plan, h.low, h.done.below hb, own_on h.row hb, h.geD, h.geg⟩
theorem ArrR.set {w wr : World} {p D gd : Nat} {c0 c1 c2 vo : Value} {ds : List Bool} {o : List Nat} (h : ArrR w wr p D gd c0 c1 c2 vo ds o) (i : Nat) : ArrR w (wr.setCell ⟨gd, i, none⟩ (.bool true)) p D gd c0 c1 c2 vo (ds.set i true) o := by
  have hpg : p ≠ gd := by have := h.low; have := h.geg; omega
  have hDg : D ≠ gd := ty_ne h.done.box h.done.row (by decide)
  refine ⟨⟨h.grow.os, h.grow.tape, h.grow.output, by simpa using h.grow.size, fun k hk hn => ?_⟩, (Below.heap_setCell _ _ _ _ hpg).trans h.plan, h.low, ⟨?_, ?_⟩, ?_, h.geD, h.geg⟩
  · rw [Below.heap_setCell _ _ _ _ (fun e => by have := h.geg; have e2 : k = gd := e; omega)]
    exact h.grow.block k hk hn
  · rw [List.length_set]
    exact (Below.heap_setCell _ _ _ _ hDg).trans h.done.box
  · have := Go.Joins.block_setCell (i := i) h.done.row (.bool true)
    rw [this]
    congr 2
    rw [List.setIfInBounds_toArray, List.map_set]
  · refine own_far h.row (set_grown _ _ _ _) (fun q hq cur hc => ?_)
    obtain rfl := Option.some.inj hq
    exact ty_ne hc h.done.row (by decide) rfl
theorem ArrR.put {w wr w1 : World} {p D gd : Nat} {c0 c1 c2 vo v' : Value} {ds : List Bool} {o : List Nat} (h : ArrR w wr p D gd c0 c1 c2 vo ds o) (i : Nat) (hg : wr.grownBy w1 vo.ownBlock) (ho : w1.ownsRow w.heap.size 3 1 v' (o.length + 1) (intV o ++ [.int .i64 (i : Nat)])) :
    w1.heap[p]? = some (.cells #[c0, c1, c2, vo] 56 (0, 0)) ∧ ArrR w (w1.setCell ⟨p, 3, none⟩ v') p D gd c0 c1 c2 v' ds (o ++ [i]) := by
  have hne : ∀ {g : Nat} {C : Array Value} {t : TypeId}, wr.heap[g]? = some (.cells C t (0, 0)) → t ≠ 3 → w1.heap[g]? = some (.cells C t (0, 0)) := fun {g C t} hh ht => by
    refine (hg.block g (block_lt hh) (fun e => ?_)).trans hh
    obtain ⟨_, cur, hc⟩ := own_block h.row e.symm
    exact ty_ne hh hc ht rfl
  have hp1 := hne h.plan (by decide)
  have hD1 := hne h.done.box (by decide)
  have hg1 := hne h.done.row (by decide)
  have hpD : D ≠ p := by have := h.low; have := h.geD; omega
  have hpg : gd ≠ p := by have := h.low; have := h.geg; omega
  refine ⟨hp1, ⟨⟨hg.os.trans h.grow.os, hg.tape.trans h.grow.tape, hg.output.trans h.grow.output, by simpa using Nat.le_trans h.grow.size hg.size, fun k hk hn => ?_⟩, ?_, h.low, ⟨?_, ?_⟩, ?_, h.geD, h.geg⟩⟩
  · rw [Below.heap_setCell _ _ _ _ (fun e => hn (by rw [e]))]
    refine (hg.block k (Nat.lt_of_lt_of_le hk h.grow.size) (fun e => ?_)).trans (h.grow.block k hk hn)
    have := (own_block h.row e.symm).1
    omega
  · have := Go.Joins.block_setCell (i := 3) hp1 v'
    simpa using this
  · exact (Below.heap_setCell _ _ _ _ hpD).trans hD1
  · exact (Below.heap_setCell _ _ _ _ hpg).trans hg1
  · rw [List.length_append, List.length_singleton]
    have e : intV (o ++ [i]) = intV o ++ [.int .i64 (i : Nat)] := by simp [intV]
    rw [e]
    refine own_far ho (set_grown _ _ _ _) (fun q hq cur hc => ?_)
    obtain rfl := Option.some.inj hq
    exact ty_ne hc hp1 (by decide) rfl
theorem rowI_of {w : World} {base : Nat} {u : Value} {q : List Nat} (h : w.ownsRow base 3 1 u q.length (intV q)) : ∃ A g c, u = .slice A q.length c ∧ q.length ≤ c ∧ RowI w A g q := by
  rcases h.2 with ⟨rfl, h0⟩ | ⟨g, cap, cur, rfl, hb, hg, hn, hc, hs, ht⟩
  · exact ⟨none, 0, 0, by rw [h0], by omega, fun k hk => by omega⟩
  · refine ⟨_, g, cap, rfl, hn, fun k hk => ⟨rfl, block_lt hg, ?_⟩⟩
    obtain ⟨g2, cap2, u2, e2, _, _, _, hu, hcell⟩ := own_at h hk
    cases e2
    rw [hcell]
    unfold intV at hu
    rw [List.getElem?_map, List.getElem?_eq_getElem hk] at hu
    exact hu.symm
theorem done_made (w : World) (n : Nat) : Done ((w.alloc (.cells (madeCells #[Value.bool false] n) 4)).alloc (.cells #[.slice (some ⟨w.heap.size, 0, none⟩) n n] 74)) (w.heap.size + 1) w.heap.size (List.replicate n false) := by
  refine ⟨?_, ?_⟩
  · have e : w.heap.size + 1 = (w.alloc (.cells (madeCells #[Value.bool false] n) 4)).heap.size := by simp
    rw [e, List.length_replicate]
    exact Array.getElem?_push_size
  · have h : (w.alloc (.cells (madeCells #[Value.bool false] n) 4)).heap[w.heap.size]? = some (.cells (madeCells #[Value.bool false] n) 4 (0, 0)) := Array.getElem?_push_size
    rw [block_alloc h]
    congr 2
    unfold madeCells
    rw [List.map_replicate]
    refine Array.ext (by simp) (fun i h1 h2 => ?_)
    simp [Nat.mod_one]
def ArrP (w : World) (p : Nat) (c0 c1 c2 : Value) (ns : List (List Nat)) (e : Ending) (w' : World) : Prop :=
  w.grownBy w' (some p) ∧ ((∃ o vo, arr ns = some o ∧ e = .returned (.int .i64 0) ∧ w'.heap[p]? = some (.cells #[c0, c1, c2, vo] 56 (0, 0)) ∧ w'.ownsRow w.heap.size 3 1 vo o.length (intV o)) ∨ (arr ns = none ∧ e = .returned (.int .i64 84)))
end Go.Proofs.YtmkalnljclhigaaGreat.Ch

/-
  checker: arrange, the walk.
-/
namespace Go.Proofs.YtmkalnljclhigaaGreat.Ch
set_option linter.unusedVariables false
set_option linter.unusedSimpArgs false
set_option linter.unnecessarySimpa false
open Go.RowKit Go.Maps Go.Proofs.YtmkalnljclhigaaGreatK Go.Proofs.YtmkalnljclhigaaGreat.XCheckerChecks Go.Proofs.YtmkalnljclhigaaGreatW.PrintWords Go.Proofs.YtmkalnljclhigaaGreatW.PrintLast Go.Sort

theorem infoB : (Tryz.prog.info? 4).map (fun i => (i.zero, i.size, i.bytes)) = some (some (.bool false), 1, 1) := by kernel_rfl
set_option maxRecDepth 100000 in
set_option maxHeartbeats 4000000 in
theorem arrange_any (w : World) (p : Nat) (A : Option Addr) (c : Nat) (c1 c2 : Value) (ns : List (List Nat)) (base : Nat) (hp : w.heap[p]? = some (.cells #[.slice A ns.length c, c1, c2, .slice none 0 0] 56 (0, 0))) (hN : NeedsIn w base c2 ns) (hn : ns.length ≤ 256) (hin : ∀ q ∈ ns, q.length ≤ 1000000 ∧ ∀ x ∈ q, x < ns.length) :
    Calls Tryz.prog 28 #[.pointer (some ⟨p, 0, none⟩)] w (ArrP w p (.slice A ns.length c) c1 c2 ns) := by
  obtain ⟨adn, capn, rfl⟩ : ∃ ad cap, c2 = .slice ad ns.length cap := by
    obtain ⟨vs, hv1, hv2⟩ := hN.row
    exact own_slice hv1
  obtain ⟨z0, z1, z2, z3⟩ := cells4 hp
  obtain ⟨i0, hi0, hz0, hzs, hzb⟩ := info_parts infoI
  obtain ⟨b0, hb0, bz0, bzs, bzb⟩ := info_parts infoB
  have hmk := run_make (P := Tryz.prog) w 74 4 b0 _ Tryz.underlying74 hb0 bz0 .i64 .i64 (ns.length : Int) (ns.length : Int) (by omega) (Int.le_refl _) (by rw [bzb]; omega) (by omega)
  rw [bzs, Nat.mul_one, Int.toNat_natCast] at hmk
  have hdm := done_made w ns.length
  obtain ⟨n, hnn⟩ : ∃ n, ns.length = n := ⟨_, rfl⟩
  obtain ⟨wa, hwa⟩ : ∃ W : World, W = (w.alloc (.cells (madeCells #[Value.bool false] n) 4)) := ⟨_, rfl⟩
  have hba : Below w.heap.size w wa := by rw [hwa]; exact s_alloc (Below.refl _ _) _
  have hsz : wa.heap.size = w.heap.size + 1 := by rw [hwa]; simp
  have hmk2 : (Instr.makeSlice 74 (.int .i64 n) (.int .i64 n)).run Tryz.prog w = .ok (.slice (some ⟨w.heap.size, 0, none⟩) n n) (w.alloc (.cells (madeCells #[Value.bool false] n) 4)) := by rw [← hnn]; exact hmk
  obtain ⟨wb, hwb⟩ : ∃ W : World, W = wa.alloc (.cells #[.slice (some ⟨w.heap.size, 0, none⟩) n n] 74) := ⟨_, rfl⟩
  rw [hnn, ← hwa, ← hwb] at hdm
  have hbb : Below w.heap.size w wb := by rw [hwb]; exact s_alloc hba _
  have HDM := Lib.hid hdm
  have HBB := Lib.hid hbb
  have HN := Lib.hid hN
  have HC0 := Lib.hid hp
  have HIN := Lib.hid hin
  rw [hnn] at HC0 HIN hn z0 z2 HN
  rw [hnn]
  have HNN := Lib.hid hnn
  clear hN hin hp hmk hdm hnn hba hbb
  go_enter Tryz.func28, Tryz.ntmps28
  go_wp2
  go_step3
  go_upto_region 2 with fail
  rw [← hwa, ← hwb]
  clear hwb hwa hsz hmk2 z0 z1 z2 z3
  go_wp2
  go_step3
  go_wp2
  go_loopg [2] n (fun g v2 wr => ∃ (ds : List Bool) (o : List Nat) (vo : Value), g = n - o.length ∧ o.length ≤ n ∧ ds.length = n ∧ Hid (ArrR w wr p (w.heap.size + 1) w.heap.size (.slice A n c) c1 (.slice adn n capn) vo ds o) ∧ Hid (arrF ns (n - o.length + 1) ds o = arr ns))
  case atStart => exact ⟨List.replicate n false, [], _, by simp, by simp, by simp, Lib.hid ⟨⟨HBB.out.os, HBB.out.tape, HBB.out.output, HBB.out.size, fun k hk _ => HBB.out.block k hk⟩, block_on HBB.out HC0.out, block_lt HC0.out, HDM.out, World.ownsRow_nil _ _ _ _, Nat.le_succ _, Nat.le_refl _⟩, Lib.hid (by unfold arr; rw [HNN.out]; rfl)⟩
  case round =>
    obtain ⟨ds, o, vo, rfl, hon, hds, HR, HF⟩ := hrel
    obtain ⟨ado, capo, rfl⟩ := own_slice HR.out.row
    obtain ⟨z0, z1, z2, z3⟩ := cells4 HR.out.plan
    clear z1 z2
    go_upto_region 3 with fail
    go_region
    clear z0 z3
    have hd : Below wr.heap.size wr wr.drew := s_drew (Below.refl _ _)
    have HR1 := Lib.hid (HR.out.below hd)
    clear hd HR
    generalize wr.drew = wd at *
    by_cases hlt : o.length < n
    · obtain ⟨z0, z1, z2, z3⟩ := cells4 HR1.out.plan
      simp only [hlt, decide_true]
      go_wp2
      clear z0 z1 z2 z3
      go_loopg [30] n (fun g v2 wr => ∃ i : Nat, i ≤ n ∧ g = n - i ∧ v2 = .int .i64 i ∧ Hid (ArrR w wr p (w.heap.size + 1) w.heap.size (.slice A n c) c1 (.slice adn n capn) (.slice ado o.length capo) ds o) ∧ Hid (nextOf ds (ns.drop i) i = nextOf ds ns 0))
      case atStart => exact ⟨0, Nat.zero_le _, rfl, rfl, HR1, Lib.hid (by rw [List.drop_zero])⟩
      case round =>
        obtain ⟨i, hi, rfl, rfl, HRi, HX⟩ := hrel
        by_cases hit : i < n
        · have hin2 : i < ns.length := by rw [HNN.out]; exact hit
          obtain ⟨vs, hv1, hv2⟩ := (NeedsIn.far HN.out HRi.out.grow HC0.out).row
          rw [HNN.out] at hv1
          obtain ⟨gv, capv, u, ev, hnc, _, hgv, hu, q0⟩ := own_at hv1 hit
          obtain ⟨u2, hu2, hou⟩ := hv2 i hin2
          rw [hu] at hu2
          obtain rfl := Option.some.inj hu2
          obtain ⟨Aq, gq, cq, rfl, hqc, hrow⟩ := rowI_of hou
          cases ev
          have hdrop : nextOf ds (ns.drop i) i = if ready ds ns[i] i = true then some i else nextOf ds (ns.drop (i + 1)) (i + 1) := by rw [List.drop_eq_getElem_cons hin2, nextOf]
          rw [HX.out] at hdrop
          have hinq := HIN.out _ (List.getElem_mem hin2)
          have hmis := missings_any wr (w.heap.size + 1) w.heap.size ds Aq gq cq ns[i] HRi.out.done (by omega) hqc (by rw [hds]; exact hinq.2) hrow
          have hb : wr.cell? ⟨w.heap.size, i, none⟩ = some (.bool (ds.getD i false)) := HRi.out.done.at (by omega)
          have hbox := cells1 HRi.out.done.box
          rw [hds] at hbox
          have hmf := blockFree HRi.out.done.row i
          obtain ⟨z0, z1, z2, z3⟩ := cells4 HRi.out.plan
          have hq' : (ns[i] : List Nat).any (fun x => !ds.getD x false) = lacks ds ns[i] := rfl
          rw [hq'] at hmis
          have hinq2 := hinq.1
          generalize ns[i] = q at *
          have HDR := Lib.hid hdrop
          have HMI := Lib.hid hmis
          clear hdrop hinq hmis hrow hou hv1 hv2 hu hu2 hin2 hq'
          generalize hb9 : ds.getD i false = b9 at *
          have HB9 := Lib.hid hb9
          clear hb9
          cases b9 with
          | true =>
            have hD := HDR.out
            unfold ready at hD
            rw [HB9.out, Bool.not_true, Bool.false_and, if_neg (by decide)] at hD
            have HD2 := Lib.hid hD
            clear hD HMI
            go_wp2
            go_roundg (n - (i + 1))
            case rel => exact ⟨i + 1, by omega, rfl, by go_num, HRi, Lib.hid HD2.out.symm⟩
            case measure => omega
          | false =>
            have hD := HDR.out
            unfold ready at hD
            rw [HB9.out, Bool.not_false, Bool.true_and] at hD
            generalize lacks ds q = lk at *
            cases lk with
            | true =>
              rw [Bool.not_true, if_neg (by decide)] at hD
              have HD2 := Lib.hid hD
              clear hD
              go_wp2_with (go_at_call 54; refine HMI.out.mono ?_; rintro e w2 ⟨rfl, hbl⟩; have HR2 := Lib.hid (HRi.out.below hbl); clear hbl)
              go_roundg (n - (i + 1))
              case rel => exact ⟨i + 1, by omega, rfl, by go_num, HR2, Lib.hid HD2.out.symm⟩
              case measure => omega
            | false =>
              rw [Bool.not_false, if_pos rfl] at hD
              have HD2 := Lib.hid hD
              clear hD
              go_upto_region 8 with (go_at_call 54; refine HMI.out.mono ?_; rintro e w2 ⟨rfl, hbl⟩; have HR2 := Lib.hid (HRi.out.below hbl); clear hbl)
              clear hbox hb hmf z0 z1 z2 z3 q0 HMI
              have hbox := cells1 HR2.out.done.box
              rw [hds] at hbox
              have hmf := blockFree HR2.out.done.row i
              have hb : w2.cell? ⟨w.heap.size, i, none⟩ = some (.bool (ds.getD i false)) := HR2.out.done.at (by omega)
              rw [HB9.out] at hb
              have hR8 := HR2.out.set i
              go_upto_region 9 with fail
              clear hbox hmf hb
              generalize w2.setCell ⟨w.heap.size, i, none⟩ (.bool true) = w8 at *
              obtain ⟨wy, hwy⟩ : ∃ W : World, W = w8.alloc (.cells #[.int .i64 (i : Nat)] 3) := ⟨_, rfl⟩
              have hby : Below w8.heap.size w8 wy := by rw [hwy]; exact s_alloc (Below.refl _ _) _
              have hRy := hR8.below hby
              have hnews := int_news w8 (i : Nat)
              rw [← hwy] at hnews
              obtain ⟨y0, y1, y2, y3⟩ := cells4 hR8.plan
              have hbase := hRy.grow.size
              have HRY := Lib.hid hRy
              have HNW := Lib.hid hnews
              clear hR8 hRy hnews hby
              go_wp2_with (at_builtin; (try rw [← hwy]); refine wpList_append_own_at _ rfl _ _ 42 rfl w.heap.size 3 i0 _ 1 8 Tryz.underlying42 hi0 hz0 hzs hzb rfl (by decide) _ _ _ rfl HRY.out.row ⟨w8.heap.size, 0, none⟩ 1 1 [.int .i64 (i : Nat)] rfl rfl HNW.out (by simp [Value.oneCell']) (by unfold maxLen; omega) (by omega) hbase ?_; intro v' w9 hown9 hg9 _ hat9; obtain ⟨adm, capm, rfl⟩ := own_slice hown9; have hst := HRY.out.put i hg9 hown9; obtain ⟨x0, x1, x2, x3⟩ := cells4 hst.1; have of := blockFree hst.1 3; have HST := Lib.hid hst; clear hst hown9 hg9 hat9 hwy)
              go_roundg (n - (o.length + 1))
              case rel => exact ⟨ds.set i true, o ++ [i], _, by simp, by simp; omega, by simp [hds], Lib.hid HST.out.2, Lib.hid (by
                have hF := HF.out
                rw [arrF, if_pos (by rw [HNN.out]; exact hlt), HD2.out] at hF
                rw [← hF, List.length_append, List.length_singleton]
                have e : n - (o.length + 1) + 1 = n - o.length := by omega
                rw [e])⟩
              case measure => omega
        · obtain rfl : i = n := by omega
          have hX := HX.out
          rw [List.drop_eq_nil_of_le (by rw [HNN.out]; exact Nat.le_refl _)] at hX
          have hF := HF.out
          rw [arrF, if_pos (by rw [HNN.out]; exact hlt), ← hX] at hF
          have HF2 := Lib.hid hF
          clear hX hF
          go_wp2
          try rw [Exit.noGoto_ret]
          go_ret
          exact ⟨HRi.out.grow, .inr ⟨HF2.out.symm, rfl⟩⟩
    · have hF := HF.out
      rw [arrF, if_neg (by rw [HNN.out]; exact hlt)] at hF
      have HF2 := Lib.hid hF
      clear hF
      obtain ⟨z0, z1, z2, z3⟩ := cells4 HR1.out.plan
      go_wp2
      try rw [Exit.noGoto_ret]
      go_ret
      exact ⟨HR1.out.grow, .inl ⟨o, _, HF2.out.symm, rfl, HR1.out.plan, HR1.out.row⟩⟩
end Go.Proofs.YtmkalnljclhigaaGreat.Ch
