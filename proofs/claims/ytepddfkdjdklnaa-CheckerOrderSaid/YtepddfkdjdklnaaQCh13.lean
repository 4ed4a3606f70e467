/-
  checker: arrange$1 and ContainsFunc over int with it.
-/
import Derived.Test.YtepddfkdjdklnaaQCh12
namespace Go.Proofs.Ytepddfkdjdklnaa.Ch
set_option linter.unusedVariables false
set_option linter.unusedSimpArgs false
set_option linter.unnecessarySimpa false
open Go.RowKit Go.Proofs.YtepddfkdjdklnaaK Go.Proofs.Ytepddfkdjdklnaa.PCheckerOrder Go.Proofs.YtepddfkdjdklnaaW.PrintWords Go.Proofs.YtepddfkdjdklnaaW.PrintLast

/-- The boxes that are done: a variable, and its row. -/
structure Done (w : World) (D gd : Nat) (ds : List Bool) : Prop where
  box : w.heap[D]? = some (.cells #[.slice (some ⟨gd, 0, none⟩) ds.length ds.length] 29 (0, 0))
  row : w.heap[gd]? = some (.cells (ds.map Value.bool).toArray 4 (0, 0))
theorem Done.at {w : World} {D gd : Nat} {ds : List Bool} (h : Done w D gd ds) {k : Nat} (hk : k < ds.length) : w.cell? ⟨gd, k, none⟩ = some (.bool (ds.getD k false)) := by
  simp [World.cell?, h.row, hk]
theorem Done.below {w w1 : World} {D gd : Nat} {ds : List Bool} (h : Done w D gd ds) (hb : Below w.heap.size w w1) : Done w1 D gd ds := ⟨(hb.block D (block_lt h.box)).trans h.box, (hb.block gd (block_lt h.row)).trans h.row⟩
set_option maxRecDepth 100000 in
theorem missing_any (w : World) (D gd : Nat) (ds : List Bool) (k : Nat) (hk : k < ds.length) (h : Done w D gd ds) : Calls Try.prog 36 #[.int .i64 k, .pointer (some ⟨D, 0, none⟩)] w fun e w' => e = .returned (.bool (!ds.getD k false)) ∧ Below w.heap.size w w' := by
  have c0 := cells1 h.box
  have c1 := h.at hk
  generalize ds.getD k false = b at *
  generalize ds.length = n at *
  clear h
  go_enter Try.func36, Try.ntmps36
  go_wp2
  go_ret
  exact ⟨rfl, Below.refl _ _⟩
/-- Numbers in a row. -/
def RowI (w : World) (A : Option Addr) (g : Nat) (l : List Nat) : Prop := ∀ k (h : k < l.length), A = some ⟨g, 0, none⟩ ∧ g < w.heap.size ∧ w.cell? ⟨g, k, none⟩ = some (.int .i64 (l[k] : Nat))
set_option maxRecDepth 100000 in
set_option maxHeartbeats 2000000 in
theorem missing_idx (w : World) (D gd : Nat) (ds : List Bool) (A : Option Addr) (g c : Nat) (l : List Nat) (hd : Done w D gd ds) (hl : l.length < 1000000000000) (hc : l.length ≤ c) (hin : ∀ x ∈ l, x < ds.length) (hr : RowI w A g l) :
    Calls Try.prog 50 #[.slice A l.length c, .func (.func 36) #[] #[.pointer (some ⟨D, 0, none⟩)]] w fun e w' => ∃ i : Int, e = .returned (.int .i64 i) ∧ (i < 0 ↔ l.any (fun x => !ds.getD x false) = false) ∧ -1 ≤ i ∧ i < l.length ∧ Below w.heap.size w w' := by
  have HD := Lib.hid hd
  have HR := Lib.hid hr
  have HI := Lib.hid hin
  clear hd hr hin
  go_enter Try.func50, Try.ntmps50
  go_wp2
  go_loopw [8] (fun i wr => ∃ k : Nat, k ≤ l.length ∧ i = .int .i64 k ∧ Hid ((l.take k).any (fun x => !ds.getD x false) = false) ∧ Hid (Below w.heap.size w wr)) (fun i _ => l.length - (intOf i).toNat)
  case atStart => exact ⟨0, Nat.zero_le _, rfl, by rw [List.take_zero]; rfl, Below.refl _ _⟩
  case round =>
    obtain ⟨k, hk, rfl, HA, HB⟩ := hrel
    by_cases hlt : k < l.length
    · obtain ⟨hA, hgw, hcell⟩ := HR.out k hlt
      have q0 : wr.cell? ⟨g, k, none⟩ = some (.int .i64 (l[k] : Nat)) := (HB.out.cell (p := ⟨g, k, none⟩) hgw).trans hcell
      subst hA
      clear hgw hcell
      have htk : (l.take (k + 1)).any (fun x => !ds.getD x false) = !ds.getD l[k] false := by
        rw [List.take_succ_eq_append_getElem hlt, List.any_append, HA.out, Bool.false_or, List.any_cons, List.any_nil, Bool.or_false]
      have hmem := List.getElem_mem hlt
      have hyes : (!ds.getD l[k] false) = true → l.any (fun x => !ds.getD x false) = true := fun e => List.any_eq_true.2 ⟨_, hmem, e⟩
      have hly := HI.out _ hmem
      generalize l[k] = y at *
      have hm := missing_any wr D gd ds y hly (HD.out.below HB.out)
      have HTK := Lib.hid htk
      have HYES := Lib.hid hyes
      clear htk hyes hly hmem
      generalize hpy : (!ds.getD y false) = py at *
      have HM := Lib.hid hm
      clear hm hpy
      cases py with
      | true =>
        go_wp2_with (go_at_call 36; refine HM.out.mono ?_; rintro e w2 ⟨rfl, hb⟩; have HB2 := Lib.hid (s_trans HB.out hb); clear hb)
        go_ret
        refine ⟨k, rfl, ⟨fun h => by omega, fun h => ?_⟩, by omega, by omega, HB2.out⟩
        rw [HYES.out (by simp)] at h; cases h
      | false =>
        go_wp2_with (go_at_call 36; refine HM.out.mono ?_; rintro e w2 ⟨rfl, hb⟩; have HB2 := Lib.hid (s_trans HB.out hb); clear hb)
        go_roundw
        case rel => exact ⟨k + 1, by omega, by go_num, HTK, HB2⟩
        case measure => simp [intOf]; omega
    · obtain rfl : k = l.length := by omega
      go_wp2
      go_ret
      refine ⟨-1, rfl, ⟨fun _ => ?_, fun _ => by omega⟩, by omega, by omega, HB.out⟩
      have := HA.out
      rwa [List.take_length] at this
set_option maxRecDepth 100000 in
theorem missings_any (w : World) (D gd : Nat) (ds : List Bool) (A : Option Addr) (g c : Nat) (l : List Nat) (hd : Done w D gd ds) (hl : l.length < 1000000000000) (hc : l.length ≤ c) (hin : ∀ x ∈ l, x < ds.length) (hr : RowI w A g l) :
    Calls Try.prog 37 #[.slice A l.length c, .func (.func 36) #[] #[.pointer (some ⟨D, 0, none⟩)]] w fun e w' => e = .returned (.bool (l.any (fun x => !ds.getD x false))) ∧ Below w.heap.size w w' := by
  have hi := missing_idx w D gd ds A g c l hd hl hc hin hr
  have HI := Lib.hid hi
  clear hi hd hr hin
  go_enter Try.func37, Try.ntmps37
  go_wp2_with (go_at_call 50; refine HI.out.mono ?_; rintro e w1 ⟨i, rfl, hi1, hi2, hi3, hb⟩; have HB1 := Lib.hid hb; have HI1 := Lib.hid hi1; clear hb hi1)
  go_ret
  refine ⟨?_, HB1.out⟩
  refine congrArg (fun b => Ending.returned (Value.bool b)) ?_
  cases h : l.any (fun x => !ds.getD x false) with
  | false => exact decide_eq_false (by have := HI1.out.2 h; omega)
  | true => exact decide_eq_true (by
      refine Int.not_lt.1 fun h2 => ?_
      rw [HI1.out.1 h2] at h
      cases h)
end Go.Proofs.Ytepddfkdjdklnaa.Ch
