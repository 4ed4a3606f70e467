/- Several texts in one. -/
import Derived.Test.YtnaglnifpejpjaaGreatDoorRRow
import Derived.Deep.WholeRow
import Derived.Deep.MidRow
import Derived.Test.YtnaglnifpejpjaaGreatDoorREf
import Derived.Test.YtnaglnifpejpjaaGreatDoorRChA
import Derived.Test.YtnaglnifpejpjaaGreatDoorRMA
/-
  Whole rows of a slice: read by one operation, laid into a new block by one operation.
-/
namespace Go.Proofs.YtnaglnifpejpjaaGreatDoor.RowTake
set_option linter.unusedSimpArgs false
set_option linter.unnecessarySimpa false
set_option linter.unusedVariables false
open Go.RowKit Go.Proofs.YtnaglnifpejpjaaGreatDoorW.PrintWords

/-- The cells cs lie at p. -/
def At (w : World) (p : Addr) (cs : List Value) : Prop := ∀ j v, cs[j]? = some v → w.cell? (p.add j) = some v
theorem load_at {P : Program} (w : World) (p : Addr) (ty : TypeId) (cs : List Value) (d : TypeDesc) (hc : At w p cs)
 (hu : P.underlying ty = some d) (hd : d.isRow = true) (hi : (P.info? ty).map (·.size) = some cs.length) :
 (Instr.loadAt ty (.pointer (some p))).run P w = .ok (.agg cs.toArray) w := by
 have hl : (loadCells p cs.length).run P w = .ok cs.toArray w := run_loadCells_list (P := P) w p cs hc
 cases hq : P.info? ty with
 | none => simp [hq] at hi
 | some i =>
   have hs : i.size = cs.length := by simpa [hq] using hi
   have hagg : (isAgg ty).run P w = .ok true w := by
    unfold isAgg
    rw [Sem.run_bind, run_underlying hu w]
    cases d <;> simp_all
   simp [Instr.loadAt, Instr.sureAddr, loadVar, Sem.run_bind, hagg, sizeOf, typeInfo, hq, hs, hl]
/-- In straight code: a whole row of a slice is loaded by one operation. (By 'apply'.) -/
theorem wpl_row_at {P : Program} {ops : Array Oper} {rest : List Oper} {o : Oper} {a : Act} {w : World} {Q : Exit → Act → World → Prop} (ty : TypeId) (x : Operand) (p : Addr) (cs : Array Value) (d : TypeDesc)
 (hu : P.underlying ty = some d) (hd : d.isRow = true) (hgd : o.guard = none) (ho : o.op = .load ty x) (hx : a.eval x = .pointer (some p))
 (hg : At w p cs.toList) (hi : (P.info? ty).map (·.size) = some cs.size)
 (h : wpList P ops Q rest (a.put o.dst (.agg cs)) w) : wpList P ops Q (o :: rest) a w :=
 wpList_plain hgd fun _ hK => by
  unfold Oper.wp execOp
  simp only [ho, hx, Sem.run_bind, Sem.run_pure, load_at w p ty cs.toList d hg hu hd (by simpa using hi), Result.andThen_ok]
  exact hK _ _ h
end Go.Proofs.YtnaglnifpejpjaaGreatDoor.RowTake

/-
  eval.picks, eval.Picks: contracts.
-/
namespace Go.Proofs.YtnaglnifpejpjaaGreatDoor.Ch
set_option linter.unusedVariables false
set_option linter.unusedSimpArgs false
set_option linter.unnecessarySimpa false
open Go.RowKit Go.Proofs.YtnaglnifpejpjaaGreatDoorK Go.Proofs.YtnaglnifpejpjaaGreatDoor.XEvalRuns Go.Proofs.YtnaglnifpejpjaaGreatDoorW.PrintWords Go.Proofs.YtnaglnifpejpjaaGreatDoorW.PrintLast

abbrev rC (r : S45) : Array Value := #[.int .i64 r.f0.f0, .int .i64 r.f0.f1, .int .i64 r.f0.f2, .int .i64 r.f1.f0, .int .i64 r.f1.f1, .int .i64 r.f1.f2, .string r.f2, .bool r.f3, .int .i64 r.f4, .int .i64 r.f5, .int .i64 r.f6, .string r.f7, .string r.f8, .int .i64 r.f9, .int .i64 r.f10, .int .i64 r.f11, .bool r.f12]
abbrev rV (r : S45) : Value := .agg (rC r)
def tagF (r : S45) (t : ByteArray) : Option (Int × Bool) := entry_Tag.f r.f0.f0 r.f0.f1 r.f0.f2 r.f1.f0 r.f1.f1 r.f1.f2 r.f2 r.f3 r.f4 r.f5 r.f6 r.f7 r.f8 r.f9 r.f10 r.f11 r.f12 t
def fieldF (r : S45) (t : ByteArray) : Option (Int × Bool) := entry_Field.f r.f0.f0 r.f0.f1 r.f0.f2 r.f1.f0 r.f1.f1 r.f1.f2 r.f2 r.f3 r.f4 r.f5 r.f6 r.f7 r.f8 r.f9 r.f10 r.f11 r.f12 t
def tagV (r : S45) (t : ByteArray) : Int × Bool := (tagF r t).getD (0, false)
def fieldV (r : S45) (t : ByteArray) : Int × Bool := (fieldF r t).getD (0, false)
theorem tag_some (r : S45) (t : ByteArray) : tagF r t = some (tagV r t) := by
 have hl : ∃ b, entry_Late.f r.f0.f0 r.f0.f1 r.f0.f2 r.f1.f0 r.f1.f1 r.f1.f2 r.f2 r.f3 r.f4 r.f5 r.f6 r.f7 r.f8 r.f9 r.f10 r.f11 r.f12 = some b := by unfold entry_Late.f; repeat' (first | exact ⟨_, rfl⟩ | split)
 obtain ⟨b, hb⟩ := hl
 obtain ⟨v, hv⟩ : ∃ v, tagF r t = some v := by
  unfold tagF entry_Tag.f
  rw [hb]
  simp only [Option.bind_some]
  repeat' (first | exact ⟨_, rfl⟩ | split)
 unfold tagV
 rw [hv]
 rfl
theorem field_some (r : S45) (t : ByteArray) : fieldF r t = some (fieldV r t) := by
 have ho : ∃ b, treat_Output.f r.f5 = some b := by unfold treat_Output.f; repeat' (first | exact ⟨_, rfl⟩ | split)
 have hd : ∃ b, treat_Deducts.f r.f5 = some b := by unfold treat_Deducts.f; repeat' (first | exact ⟨_, rfl⟩ | split)
 have hl : ∃ b, entry_Owed.f r.f0.f0 r.f0.f1 r.f0.f2 r.f1.f0 r.f1.f1 r.f1.f2 r.f2 r.f3 r.f4 r.f5 r.f6 r.f7 r.f8 r.f9 r.f10 r.f11 r.f12 = some b := by
  obtain ⟨b1, h1⟩ := ho
  obtain ⟨b2, h2⟩ := hd
  unfold entry_Owed.f
  rw [h1, h2]
  simp only [Option.bind_some]
  repeat' (first | exact ⟨_, rfl⟩ | split)
 obtain ⟨b, hb⟩ := hl
 obtain ⟨v, hv⟩ : ∃ v, fieldF r t = some v := by
  unfold fieldF entry_Field.f
  rw [hb]
  simp only [Option.bind_some]
  repeat' (first | exact ⟨_, rfl⟩ | split)
 unfold fieldV
 rw [hv]
 rfl
theorem tag_calls (r : S45) (t : ByteArray) (w : World) : Calls Tryz.prog 66 #[rV r, .string t] w fun e w' => e = .returned (.tuple #[.int .i64 (tagV r t).1, .bool (tagV r t).2]) ∧ Below w.heap.size w w' :=
 entry_Tag.calls _ _ _ _ _ _ _ _ _ _ _ _ _ _ _ _ _ t _ _ w (tag_some r t)
theorem field_calls (r : S45) (t : ByteArray) (w : World) : Calls Tryz.prog 101 #[rV r, .string t] w fun e w' => e = .returned (.tuple #[.int .i64 (fieldV r t).1, .bool (fieldV r t).2]) ∧ Below w.heap.size w w' :=
 entry_Field.calls _ _ _ _ _ _ _ _ _ _ _ _ _ _ _ _ _ t _ _ w (field_some r t)
theorem cellsF {w : World} {g : Nat} {a0 a1 a2 : Value} {t : TypeId} (h : w.heap[g]? = some (.cells #[a0, a1, a2] t (0, 0))) : w.cell? ⟨g, 0, none⟩ = some a0 ∧ w.cell? ⟨g, 1, none⟩ = some a1 ∧ w.cell? ⟨g, 2, none⟩ = some a2 := by refine ⟨?_, ?_, ?_⟩ <;> simp [World.cell?, h]
def signB (c n m : Int) : Bool := if c = 61 then n == m else if c = 60 then decide (n < m) else if c = 62 then decide (m < n) else false
def hitB (r : S45) (f : S70) : Bool := (tagV r f.f0).2 && signB f.f1 (tagV r f.f0).1 f.f2
theorem two_old {w : World} {a b : Obj} : ((w.alloc a).alloc b).heap[w.heap.size]? = some a := by rw [Go.heap_alloc2_old]
theorem two_new {w : World} {a b : Obj} : ((w.alloc a).alloc b).heap[w.heap.size + 1]? = some b := by
 have h := heap_alloc_last (w.alloc a) b
 rwa [show (w.alloc a).heap.size = w.heap.size + 1 by simp] at h

set_option maxRecDepth 100000 in
set_option maxHeartbeats 4000000 in
theorem hit_any (r : S45) (f : S70) (w : World) : Calls Tryz.prog 30 #[fV f, rV r] w fun e w' => e = .returned (.bool (hitB r f)) ∧ Below w.heap.size w w' := by
 have hT := fun W => tag_calls r f.f0 W
 obtain ⟨p, hp⟩ : ∃ p, hitB r f = p := ⟨_, rfl⟩
 rw [hp]
 unfold hitB at hp
 obtain ⟨n, ok, hv⟩ : ∃ n ok, tagV r f.f0 = (n, ok) := ⟨_, _, rfl⟩
 rw [hv] at hT hp
 dsimp only at hT hp
 clear hv
 have HT := Lib.hid hT
 clear hT
 have hx0 : ((w.alloc (.cells #[.string f.f0, .int .u8 f.f1, .int .i64 f.f2] 70)).alloc (.cells (rC r) 45)).heap[w.heap.size]? = some (.cells #[.string f.f0, .int .u8 f.f1, .int .i64 f.f2] 70 (0, 0)) := two_old
 have hx1 : ((w.alloc (.cells #[.string f.f0, .int .u8 f.f1, .int .i64 f.f2] 70)).alloc (.cells (rC r) 45)).heap[w.heap.size + 1]? = some (.cells (rC r) 45 (0, 0)) := two_new
 have hb0 : Below w.heap.size w ((w.alloc (.cells #[.string f.f0, .int .u8 f.f1, .int .i64 f.f2] 70)).alloc (.cells (rC r) 45)) := s_alloc (s_alloc (Below.refl _ _) _) _
 have HX0 := Lib.hid hx0
 have HX1 := Lib.hid hx1
 have HB0 := Lib.hid hb0
 clear hx0 hx1 hb0
 have HPP := Lib.hid hp
 clear hp
 obtain ⟨W1, hW⟩ : ∃ W : World, W = ((w.alloc (.cells #[.string f.f0, .int .u8 f.f1, .int .i64 f.f2] 70)).alloc (.cells (rC r) 45)) := ⟨_, rfl⟩
 rw [← hW] at HX0 HX1 HB0
 obtain ⟨s0, s1, s2⟩ := cellsF HX0.out
 cases ok
 ·go_enter Tryz.func30, Tryz.ntmps30
  go_upto_region 1 with fail
  rw [← hW]
  clear hW
  go_wp2_with (first
   | ((with_reducible refine gate_dst (N := 8) rfl ?_); apply RowTake.wpl_row (ty := 45) (hu := Tryz.underlying45) (hd := rfl); (case hgd => rfl); (case ho => rfl); (case hx => rfl); (case hg => exact HX1.out); (case hi => kernel_rfl))
   | (go_at_call 66; refine (HT.out _).mono ?_; rintro e w2 ⟨rfl, hb⟩; have HB2 := Lib.hid (s_trans HB0.out hb); obtain ⟨x0, x1, x2⟩ := cellsF (block_on hb HX0.out); clear hb))
  go_ret
  exact ⟨by rw [← HPP.out]; rfl, HB2.out⟩
 ·have hq : ∃ b61 b60 b62 : Bool, (f.f1 == 61) = b61 ∧ (f.f1 == 60) = b60 ∧ (f.f1 == 62) = b62 ∧ (b61 = true → p = (n == f.f2)) ∧ (b61 = false → b60 = true → p = decide (n < f.f2)) ∧ (b61 = false → b60 = false → b62 = true → p = decide (f.f2 < n)) ∧ (b61 = false → b60 = false → b62 = false → p = false) := by
   have hp := HPP.out
   rw [Bool.true_and] at hp
   unfold signB at hp
   refine ⟨_, _, _, rfl, rfl, rfl, fun h => ?_, fun h1 h2 => ?_, fun h1 h2 h3 => ?_, fun h1 h2 h3 => ?_⟩
   ·rw [if_pos (by simpa using h)] at hp; exact hp.symm
   ·rw [if_neg (by simpa using h1), if_pos (by simpa using h2)] at hp; exact hp.symm
   ·rw [if_neg (by simpa using h1), if_neg (by simpa using h2), if_pos (by simpa using h3)] at hp; exact hp.symm
   ·rw [if_neg (by simpa using h1), if_neg (by simpa using h2), if_neg (by simpa using h3)] at hp; exact hp.symm
  obtain ⟨b61, b60, b62, e61, e60, e62, k1, k2, k3, k4⟩ := hq
  have K1 := Lib.hid k1
  have K2 := Lib.hid k2
  have K3 := Lib.hid k3
  have K4 := Lib.hid k4
  clear k1 k2 k3 k4
  cases b61 <;> cases b60 <;> cases b62
  all_goals
   first
    | have HP := Lib.hid (K1.out rfl)
    | have HP := Lib.hid (K2.out rfl rfl)
    | have HP := Lib.hid (K3.out rfl rfl rfl)
    | have HP := Lib.hid (K4.out rfl rfl rfl)
   clear K1 K2 K3 K4
   go_enter Tryz.func30, Tryz.ntmps30
   go_upto_region 1 with fail
   rw [← hW]
   clear hW
   go_wp2_with (first
    | ((with_reducible refine gate_dst (N := 8) rfl ?_); apply RowTake.wpl_row (ty := 45) (hu := Tryz.underlying45) (hd := rfl); (case hgd => rfl); (case ho => rfl); (case hx => rfl); (case hg => exact HX1.out); (case hi => kernel_rfl))
    | (go_at_call 66; refine (HT.out _).mono ?_; rintro e w2 ⟨rfl, hb⟩; have HB2 := Lib.hid (s_trans HB0.out hb); obtain ⟨x0, x1, x2⟩ := cellsF (block_on hb HX0.out); clear hb))
   go_ret
   exact ⟨by rw [HP.out]; rfl, HB2.out⟩
def selB (r : S45) (fs : List S70) : Bool := fs.all (hitB r)
theorem rd64' (L : List S70) (i : Nat) (h : i < L.length) : rd_T70 L (i : Int) = L[i] := by unfold rd_T70; rw [Int.toNat_natCast, List.getD_eq_getElem?_getD, List.getElem?_eq_getElem h]; rfl
set_option maxRecDepth 100000 in
set_option maxHeartbeats 4000000 in
theorem sel_any (r : S45) (A : Option Addr) (c : Nat) (l : List S70) (w : World) (hr : Kd.C k70 w A l.length l) (hc : l.length ≤ c) (hl : l.length < 1000000000000) : Calls Tryz.prog 13 #[.slice A l.length c, rV r] w fun e w' => e = .returned (.bool (selB r l)) ∧ Below w.heap.size w w' := by
 have hp := fun f W => hit_any r f W
 obtain ⟨P, hP⟩ : ∃ P, hitB r = P := ⟨_, rfl⟩
 unfold selB
 rw [hP] at hp ⊢
 have HP := Lib.hid hp
 have HR := Lib.hid hr
 clear hp hr hP
 have hx0 : (w.alloc (.cells (rC r) 45)).heap[w.heap.size]? = some (.cells (rC r) 45 (0, 0)) := heap_alloc_last _ _
 have hb0 : Below w.heap.size w (w.alloc (.cells (rC r) 45)) := s_alloc (Below.refl _ _) _
 obtain ⟨W1, hW⟩ : ∃ W : World, W = w.alloc (.cells (rC r) 45) := ⟨_, rfl⟩
 rw [← hW] at hx0 hb0
 have HX0 := Lib.hid hx0
 have HB0 := Lib.hid hb0
 clear hx0 hb0
 go_enter Tryz.func13, Tryz.ntmps13
 go_upto_region 1 with fail
 rw [← hW]
 clear hW
 go_wp2
 go_loopw [9] (fun i wr => ∃ k : Nat, k ≤ l.length ∧ i = .int .i64 k ∧ Hid ((l.take k).all P = true) ∧ Hid (wr.heap[w.heap.size]? = some (.cells (rC r) 45 (0, 0))) ∧ Hid (Below w.heap.size w wr)) (fun i _ => l.length - (intOf i).toNat)
 case atStart => exact ⟨0, Nat.zero_le _, rfl, by rw [List.take_zero]; exact Lib.hid rfl, HX0, HB0⟩
 case round =>
  obtain ⟨k, hk, rfl, HA, HX, HB⟩ := hrel
  by_cases hlt : k < l.length
  ·obtain ⟨ad0, e0, q0, q1, q2⟩ := at_T70 (Kd.C_below HR.out HB.out) (k : Int) (by omega) (by omega)
   have hy := rd64' l k hlt
   have htk : (l.take (k + 1)).all P = P l[k] := by
    rw [List.take_succ_eq_append_getElem hlt, List.all_append, HA.out, Bool.true_and, List.all_cons, List.all_nil, Bool.and_true]
   have hno : P l[k] = false → l.all P = false := fun e => by
    cases h : l.all P with
    | false => rfl
    | true => rw [List.all_eq_true.1 h _ (List.getElem_mem hlt)] at e; cases e
   rw [hy] at q0 q1 q2
   rw [Int.toNat_natCast] at q0 q1 q2
   cases e0
   generalize l[k] = y at *
   clear hy
   have hpy := fun W => HP.out y W
   have HTK := Lib.hid htk
   have HNO := Lib.hid hno
   clear htk hno
   generalize P y = py at *
   have HPY := Lib.hid hpy
   clear hpy
   have hx1 : (wr.alloc (.cells #[.string y.f0, .int .u8 y.f1, .int .i64 y.f2] 70)).heap[w.heap.size]? = some (.cells (rC r) 45 (0, 0)) := block_alloc HX.out _
   have HX1 := Lib.hid hx1
   clear hx1
   cases py
   all_goals
    first
     | have HF := Lib.hid (HNO.out rfl)
     | skip
    clear HNO
    go_wp2_with (first
     | ((with_reducible refine gate_dst (N := 14) rfl ?_); apply RowTake.wpl_row (ty := 45) (hu := Tryz.underlying45) (hd := rfl); (case hgd => rfl); (case ho => rfl); (case hx => rfl); (case hg => exact HX1.out); (case hi => kernel_rfl))
     | (go_at_call 30; refine (HPY.out _).mono ?_; rintro e w2 ⟨rfl, hb⟩; have HB2 := Lib.hid (s_trans (s_alloc HB.out _) hb); have HX2 := Lib.hid (block_on hb HX1.out); clear hb))
    first
     | (go_ret; exact ⟨by rw [HF.out]; rfl, HB2.out⟩)
     | (go_roundw
        case rel => exact ⟨k + 1, by omega, by go_num, Lib.hid HTK.out, HX2, HB2⟩
        case measure => simp [intOf]; omega)
  ·obtain rfl : k = l.length := by omega
   go_wp2
   go_ret
   refine ⟨?_, HB.out⟩
   have := HA.out
   rw [List.take_length] at this
   rw [this]; rfl
end Go.Proofs.YtnaglnifpejpjaaGreatDoor.Ch

/-
  money.Sub; desk.ref; made.
-/
namespace Go.Proofs.YtnaglnifpejpjaaGreatDoor.Ch
set_option linter.unusedVariables false
set_option linter.unusedSimpArgs false
set_option linter.unnecessarySimpa false
open Go.RowKit Go.Proofs.YtnaglnifpejpjaaGreatDoorK Go.Proofs.YtnaglnifpejpjaaGreatDoor.XEvalRuns Go.Proofs.YtnaglnifpejpjaaGreatDoorW.PrintWords Go.Proofs.YtnaglnifpejpjaaGreatDoorW.PrintLast

def negE (a : Int) : Int × Int := if mayM a = true then (-a, 0) else (0, 2)
def subE (a b : Int) : Int × Int := if mayM b = true then (Go.Proofs.YtnaglnifpejpjaaGreatDoorK.sumV [a, -b], Go.Proofs.YtnaglnifpejpjaaGreatDoorK.sumE [a, -b]) else (0, 2)
theorem neg_any (a : Int) (w : World) : Calls Tryz.prog 105 #[.int .i64 a] w fun e w' => e = .returned (.tuple #[.int .i64 (negE a).1, .int .i64 (negE a).2]) ∧ Below w.heap.size w w' := by
 unfold negE
 cases h : mayM a
 ·have HM := Lib.hid h
  clear h
  go_enter Tryz.func105, Tryz.ntmps105
  go_wp2_with (go_at_call 100; refine (Money.mmay_any _ _).mono ?_; rintro e w2 ⟨rfl, rfl⟩; rw [HM.out])
  go_ret2
  exact ⟨rfl, Below.refl _ _⟩
 ·have hb := (mayM_iff a).1 h
  have e : wrap64 (-a) = -a := by unfold wrap64; omega
  have HM := Lib.hid h
  have HE := Lib.hid e
  clear h hb e
  go_enter Tryz.func105, Tryz.ntmps105
  go_wp2_with (go_at_call 100; refine (Money.mmay_any _ _).mono ?_; rintro e w2 ⟨rfl, rfl⟩; rw [HM.out])
  rw [HE.out]
  go_ret2
  exact ⟨rfl, Below.refl _ _⟩
set_option maxHeartbeats 1000000 in
theorem sub_any (a b : Int) (w : World) : Calls Tryz.prog 104 #[.int .i64 a, .int .i64 b] w fun e w' => e = .returned (.tuple #[.int .i64 (subE a b).1, .int .i64 (subE a b).2]) ∧ Below w.heap.size w w' := by
 have hn := fun W => neg_any b W
 unfold negE at hn
 unfold subE
 cases h : mayM b
 all_goals
  rw [h] at hn
  first
   | rw [if_pos rfl] at hn
   | rw [if_neg (by decide)] at hn
  have HN := Lib.hid hn
  clear hn h
  go_enter Tryz.func104, Tryz.ntmps104
  go_wp2_with (first
   | (go_at_call 105; refine (HN.out _).mono ?_; rintro e w2 ⟨rfl, hb⟩; have HB := Lib.hid hb; clear hb)
   | (go_at_call 103; refine (Money.madd_any _ _ _).mono ?_; rintro e w3 ⟨rfl, hb⟩; have HB2 := Lib.hid (s_trans HB.out hb); clear hb))
  go_ret2
  exact ⟨rfl, by first | exact HB2.out | exact HB.out⟩
/-- A function value that tells boxes: called in any later world it answers K. -/
def KnownF (w : World) (fv : Value) (K : Int → Int × Bool) : Prop :=
 (fv = .func (.func 15) #[] #[] ∧ ∀ (n : Int) (W : World), Below w.heap.size w W → Calls Tryz.prog 15 #[.int .i64 n] W fun e w' => e = .returned (.tuple #[.int .i64 (K n).1, .bool (K n).2]) ∧ Below W.heap.size W w') ∨
 (∃ p, fv = .func (.func 10) #[] #[p] ∧ ∀ (n : Int) (W : World), Below w.heap.size w W → Calls Tryz.prog 10 #[.int .i64 n, p] W fun e w' => e = .returned (.tuple #[.int .i64 (K n).1, .bool (K n).2]) ∧ Below W.heap.size W w') ∨
 (∃ p q r, fv = .func (.func 45) #[] #[p, q, r] ∧ ∀ (n : Int) (W : World), Below w.heap.size w W → Calls Tryz.prog 45 #[.int .i64 n, p, q, r] W fun e w' => e = .returned (.tuple #[.int .i64 (K n).1, .bool (K n).2]) ∧ Below W.heap.size W w')
theorem KnownF.below {w w1 : World} {fv : Value} {K : Int → Int × Bool} (h : KnownF w fv K) (hb : Below w.heap.size w w1) : KnownF w1 fv K := by
 rcases h with ⟨h, k⟩ | ⟨p, h, k⟩ | ⟨p, q, r, h, k⟩
 ·exact Or.inl ⟨h, fun n W hW => k n W (s_trans hb hW)⟩
 ·exact Or.inr (Or.inl ⟨p, h, fun n W hW => k n W (s_trans hb hW)⟩)
 ·exact Or.inr (Or.inr ⟨p, q, r, h, fun n W hW => k n W (s_trans hb hW)⟩)
def refE (K : Int → Int × Bool) (n : Int) : Int × Int := if (K n).2 = false then (0, 83) else if mayM (K n).1 = true then ((K n).1, 0) else (0, 2)
set_option maxRecDepth 100000 in
set_option maxHeartbeats 2000000 in
theorem ref_any (K : Int → Int × Bool) (fv : Value) (A : Option Addr) (n c : Nat) (m : Int) (w : World) (h : KnownF w fv K) : Calls Tryz.prog 58 #[.agg #[.slice A n c, fv], .int .i64 m] w fun e w' => e = .returned (.tuple #[.int .i64 (refE K m).1, .int .i64 (refE K m).2]) ∧ Below w.heap.size w w' := by
 have hk : KnownF (w.alloc (.cells #[.slice A n c, fv] 73)) fv K := h.below (s_alloc (Below.refl _ _) _)
 clear h
 unfold refE
 obtain ⟨a, ok, hv⟩ : ∃ a ok, K m = (a, ok) := ⟨_, _, rfl⟩
 have hb0 : Below w.heap.size w (w.alloc (.cells #[.slice A n c, fv] 73)) := s_alloc (Below.refl _ _) _
 have HB0 := Lib.hid hb0
 clear hb0
 rw [hv]
 dsimp only
 cases ok <;> cases hm : mayM a
 all_goals
  have HM := Lib.hid hm
  clear hm
  rcases hk with ⟨rfl, k⟩ | ⟨p, rfl, k⟩ | ⟨p, q, r, rfl, k⟩
  all_goals
   have k1 := k m
   rw [hv] at k1
   have HK := Lib.hid k1
   clear k k1 hv
   go_enter Tryz.func58, Tryz.ntmps58
   go_wp2_with (first
    | (go_at_call 15; refine (HK.out _ (Below.refl _ _)).mono ?_; rintro e w2 ⟨rfl, hb⟩; have HB2 := Lib.hid (s_trans HB0.out hb); clear hb)
    | (go_at_call 10; refine (HK.out _ (Below.refl _ _)).mono ?_; rintro e w2 ⟨rfl, hb⟩; have HB2 := Lib.hid (s_trans HB0.out hb); clear hb)
    | (go_at_call 45; refine (HK.out _ (Below.refl _ _)).mono ?_; rintro e w2 ⟨rfl, hb⟩; have HB2 := Lib.hid (s_trans HB0.out hb); clear hb)
    | (go_at_call 100; refine (Money.mmay_any _ _).mono ?_; rintro e w3 ⟨rfl, rfl⟩; rw [HM.out]))
   go_ret2
   exact ⟨rfl, HB2.out⟩
def clampZ (n low high : Int) : Int := if n < low then low else if n > high then high else n
def madeE (k : Int) : List Int → Int × Int
 | [a] => negE a
 | [a, b] => if k = 4 then (Go.Proofs.YtnaglnifpejpjaaGreatDoorK.sumV [a, b], Go.Proofs.YtnaglnifpejpjaaGreatDoorK.sumE [a, b]) else if k = 5 then subE a b else if k = 7 then (if b < a then b else a, 0) else (if a < b then b else a, 0)
 | [a, b, c] => (clampZ a b c, 0)
 | _ => (0, 0)
end Go.Proofs.YtnaglnifpejpjaaGreatDoor.Ch

/-
  eval.made (written by mkev2.py).
-/
namespace Go.Proofs.YtnaglnifpejpjaaGreatDoor.Ch
set_option linter.unusedVariables false
set_option linter.unusedSimpArgs false
set_option linter.unnecessarySimpa false
open Go.RowKit Go.Proofs.YtnaglnifpejpjaaGreatDoorK Go.Proofs.YtnaglnifpejpjaaGreatDoor.XEvalRuns Go.Proofs.YtnaglnifpejpjaaGreatDoorW.PrintWords Go.Proofs.YtnaglnifpejpjaaGreatDoorW.PrintLast
open Go.Proofs.YtnaglnifpejpjaaGreatDoorW.PrintMore in
attribute [local go_sem] max2_int min2_int max_two min_two
theorem kept_any (a : Int) (w : World) : Calls Tryz.prog 57 #[.int .i64 a] w fun e w' => e = .returned (.tuple #[.int .i64 a, .int .i64 0]) ∧ Below w.heap.size w w' :=
 (eval_kept_int.calls a a 0 w rfl).mono fun _ _ ⟨h1, h2⟩ => ⟨h1, h2.below⟩
theorem clamp_any (a b c : Int) (w : World) : Calls Tryz.prog 106 #[.int .i64 a, .int .i64 b, .int .i64 c] w fun e w' => e = .returned (.int .i64 (clampZ a b c)) ∧ Below w.heap.size w w' := by
 refine (eval_clamp.calls a b c (clampZ a b c) w ?_).mono fun _ _ ⟨h1, h2⟩ => ⟨h1, h2.below⟩
 unfold eval_clamp.f clampZ
 repeat' (first | rfl | split)
set_option maxRecDepth 100000 in
set_option maxHeartbeats 2000000 in
theorem made_4 (A : Option Addr) (c : Nat) (a b : Int) (w : World) (h : Money.RInt w A 2 [a, b]) : Calls Tryz.prog 60 #[.int .i64 4, .slice A 2 c] w fun e w' => e = .returned (.tuple #[.int .i64 (madeE 4 [a, b]).1, .int .i64 (madeE 4 [a, b]).2]) ∧ Below w.heap.size w w' := by
 obtain ⟨ad, rfl, q0⟩ := h.2.2 0 (by omega)
 obtain ⟨_, e1, q1⟩ := h.2.2 1 (by omega)
 cases e1
 have hy : (fun W : World => W.cell? ad = some (.int .i64 a) ∧ W.cell? (ad.add 1) = some (.int .i64 b) ∧ W.cell? ⟨ad.block, ad.off + 1, none⟩ = some (.int .i64 b)) w := ⟨q0, q1, q1⟩
 have hc : ∀ W : World, Below w.heap.size w W → W.cell? ad = some (.int .i64 a) ∧ W.cell? (ad.add 1) = some (.int .i64 b) ∧ W.cell? ⟨ad.block, ad.off + 1, none⟩ = some (.int .i64 b) := fun W hb => by
  have q : ∀ (p : Addr) (v : Value), w.cell? p = some v → W.cell? p = some v := fun p v e => (hb.cell (p := p) (World.block_lt_of_cell? w _ e)).trans e
  exact ⟨q _ _ q0, q _ _ q1, q _ _ q1⟩
 have HC := Lib.hid hc
 clear hc q0 q1 h
 go_enter Tryz.func60, Tryz.ntmps60
 go_upto_region 3 with fail
 refine start_ (n := 11) (S := fun w' => w'.cell? ad = some (.int .i64 a) ∧ w'.cell? (ad.add 1) = some (.int .i64 b) ∧ w'.cell? ⟨ad.block, ad.off + 1, none⟩ = some (.int .i64 b)) (ds := []) #[false, false, false, false, false, false, false, false, false, false, false] (by kernel_rfl) rfl rfl ⟨hy.1, hy.2.1, hy.2.2⟩ (fun hHeld => ?_)
 obtain ⟨wd, hwd⟩ : ∃ W, W = w.drew := ⟨_, rfl⟩
 rw [← hwd] at hHeld
 rw [← hwd]
 have hdr : Below w.heap.size w wd := by rw [hwd]; exact s_drew (Below.refl _ _)
 have HBd := Lib.hid hdr
 clear hwd hdr
 refine pure_ (i := 0) (N := some 9) (v := ?_) (a' := ?_) #[true, false, false, false, false, false, false, false, false, false, false] rfl rfl (by kernel_rfl) (fun _ _ _ h => h) (Or.inl ⟨by rfl, ?_⟩) ?_ ?_
 rotate_left
 ·intro w'
  go_simp
  with_reducible rfl
 rotate_left
 ·simp only [Act.put, List.setIfInBounds_toArray, List.set_cons_zero, List.set_cons_succ, i64_w, i32_w]
  rfl
 refine pure_ (i := 1) (N := some 10) (v := ?_) (a' := ?_) #[true, true, false, false, false, false, false, false, false, false, false] rfl rfl (by kernel_rfl) (fun _ _ _ h => h) (Or.inl ⟨by rfl, ?_⟩) ?_ ?_
 rotate_left
 ·intro w'
  go_simp
  with_reducible rfl
 rotate_left
 ·simp only [Act.put, List.setIfInBounds_toArray, List.set_cons_zero, List.set_cons_succ, i64_w, i32_w]
  rfl
 refine pure_ (i := 3) (N := some 12) (v := ?_) (a' := ?_) #[true, true, false, true, false, false, false, false, false, false, false] rfl rfl (by kernel_rfl) (fun _ _ _ h => h) (Or.inl ⟨by rfl, ?_⟩) ?_ ?_
 rotate_left
 ·intro w'
  go_simp
  with_reducible rfl
 rotate_left
 ·simp only [Act.put, List.setIfInBounds_toArray, List.set_cons_zero, List.set_cons_succ, i64_w, i32_w]
  rfl
 refine pure_ (i := 4) (N := some 13) (v := ?_) (a' := ?_) #[true, true, false, true, true, false, false, false, false, false, false] rfl rfl (by kernel_rfl) (fun _ _ _ h => h) (Or.inl ⟨by rfl, ?_⟩) ?_ ?_
 rotate_left
 ·intro w'
  go_simp
  with_reducible rfl
 rotate_left
 ·simp only [Act.put, List.setIfInBounds_toArray, List.set_cons_zero, List.set_cons_succ, i64_w, i32_w]
  rfl
 refine take_ (i := 2) (N := some 11) (v := ?_) (a' := ?_) #[true, true, true, true, true, false, false, false, false, false, false] rfl rfl (by kernel_rfl) (fun _ _ _ h => h) (Or.inl ⟨by rfl, ?_⟩) hHeld ?_ ?_
 rotate_left
 ·rintro w' ⟨s0, s1, s2⟩
  go_simp
  with_reducible rfl
 rotate_left
 ·simp only [Act.put, List.setIfInBounds_toArray, List.set_cons_zero, List.set_cons_succ, i64_w, i32_w]
  rfl
 refine take_ (i := 5) (N := some 14) (v := ?_) (a' := ?_) #[true, true, true, true, true, true, false, false, false, false, false] rfl rfl (by kernel_rfl) (fun _ _ _ h => h) (Or.inl ⟨by rfl, ?_⟩) hHeld ?_ ?_
 rotate_left
 ·rintro w' ⟨s0, s1, s2⟩
  go_simp
  with_reducible rfl
 rotate_left
 ·simp only [Act.put, List.setIfInBounds_toArray, List.set_cons_zero, List.set_cons_succ, i64_w, i32_w]
  rfl
 refine one_ (i := 6) (N := some 15) #[true, true, true, true, true, true, true, false, false, false, false] rfl rfl (by kernel_rfl) (by decide) (fun K hK => ?_)
 refine goes_ Tryz.func103 (by kernel_rfl) rfl #[.int .i64 a, .int .i64 b] (by rfl) rfl rfl (by simp only [List.map_toArray, List.map_cons, List.map_nil]; rfl) ?_
 with_reducible refine (Money.madd_any a b wd).mono ?_
 rintro e w3 ⟨rfl, hb3⟩
 refine ⟨_, rfl, ?_⟩
 have HB3 := Lib.hid (s_trans HBd.out hb3)
 have hz := HC.out _ HB3.out
 clear hb3
 refine hK.out _ _ ⟨hz.1, hz.2.1, hz.2.2⟩ (fun hHeld => ?_)
 clear hK K
 refine norm_ (a' := ?_) ?_ ?_
 rotate_left
 ·show Act.put _ (some 15) _ = _
  simp only [Act.put, List.setIfInBounds_toArray, List.set_cons_zero, List.set_cons_succ, i64_w, i32_w]
  rfl
 refine pure_ (i := 7) (N := some 16) (v := ?_) (a' := ?_) #[true, true, true, true, true, true, true, true, false, false, false] rfl rfl (by kernel_rfl) (fun _ _ _ h => h) (Or.inl ⟨by rfl, ?_⟩) ?_ ?_
 rotate_left
 ·intro w'
  go_simp
  with_reducible rfl
 rotate_left
 ·simp only [Act.put, List.setIfInBounds_toArray, List.set_cons_zero, List.set_cons_succ, i64_w, i32_w]
  rfl
 refine pure_ (i := 8) (N := some 17) (v := ?_) (a' := ?_) #[true, true, true, true, true, true, true, true, true, false, false] rfl rfl (by kernel_rfl) (fun _ _ _ h => h) (Or.inl ⟨by rfl, ?_⟩) ?_ ?_
 rotate_left
 ·intro w'
  go_simp
  with_reducible rfl
 rotate_left
 ·simp only [Act.put, List.setIfInBounds_toArray, List.set_cons_zero, List.set_cons_succ, i64_w, i32_w]
  rfl
 refine pure_ (i := 9) (N := some 4) (v := ?_) (a' := ?_) #[true, true, true, true, true, true, true, true, true, true, false] rfl rfl (by kernel_rfl) (fun _ _ _ h => h) (Or.inl ⟨by rfl, ?_⟩) ?_ ?_
 rotate_left
 ·intro w'
  go_simp
  with_reducible rfl
 rotate_left
 ·simp only [Act.put, List.setIfInBounds_toArray, List.set_cons_zero, List.set_cons_succ, i64_w, i32_w]
  rfl
 refine pure_ (i := 10) (N := some 5) (v := ?_) (a' := ?_) #[true, true, true, true, true, true, true, true, true, true, true] rfl rfl (by kernel_rfl) (fun _ _ _ h => h) (Or.inl ⟨by rfl, ?_⟩) ?_ ?_
 rotate_left
 ·intro w'
  go_simp
  with_reducible rfl
 rotate_left
 ·simp only [Act.put, List.setIfInBounds_toArray, List.set_cons_zero, List.set_cons_succ, i64_w, i32_w]
  rfl
 refine done_ (by kernel_rfl) ?_
 go_wp2
 go_ret2
 exact ⟨rfl, HB3.out⟩
set_option maxRecDepth 100000 in
set_option maxHeartbeats 2000000 in
theorem made_5 (A : Option Addr) (c : Nat) (a b : Int) (w : World) (h : Money.RInt w A 2 [a, b]) : Calls Tryz.prog 60 #[.int .i64 5, .slice A 2 c] w fun e w' => e = .returned (.tuple #[.int .i64 (madeE 5 [a, b]).1, .int .i64 (madeE 5 [a, b]).2]) ∧ Below w.heap.size w w' := by
 obtain ⟨ad, rfl, q0⟩ := h.2.2 0 (by omega)
 obtain ⟨_, e1, q1⟩ := h.2.2 1 (by omega)
 cases e1
 have hy : (fun W : World => W.cell? ad = some (.int .i64 a) ∧ W.cell? (ad.add 1) = some (.int .i64 b) ∧ W.cell? ⟨ad.block, ad.off + 1, none⟩ = some (.int .i64 b)) w := ⟨q0, q1, q1⟩
 have hc : ∀ W : World, Below w.heap.size w W → W.cell? ad = some (.int .i64 a) ∧ W.cell? (ad.add 1) = some (.int .i64 b) ∧ W.cell? ⟨ad.block, ad.off + 1, none⟩ = some (.int .i64 b) := fun W hb => by
  have q : ∀ (p : Addr) (v : Value), w.cell? p = some v → W.cell? p = some v := fun p v e => (hb.cell (p := p) (World.block_lt_of_cell? w _ e)).trans e
  exact ⟨q _ _ q0, q _ _ q1, q _ _ q1⟩
 have HC := Lib.hid hc
 clear hc q0 q1 h
 go_enter Tryz.func60, Tryz.ntmps60
 go_upto_region 5 with fail
 refine start_ (n := 11) (S := fun w' => w'.cell? ad = some (.int .i64 a) ∧ w'.cell? (ad.add 1) = some (.int .i64 b) ∧ w'.cell? ⟨ad.block, ad.off + 1, none⟩ = some (.int .i64 b)) (ds := []) #[false, false, false, false, false, false, false, false, false, false, false] (by kernel_rfl) rfl rfl ⟨hy.1, hy.2.1, hy.2.2⟩ (fun hHeld => ?_)
 obtain ⟨wd, hwd⟩ : ∃ W, W = w.drew := ⟨_, rfl⟩
 rw [← hwd] at hHeld
 rw [← hwd]
 have hdr : Below w.heap.size w wd := by rw [hwd]; exact s_drew (Below.refl _ _)
 have HBd := Lib.hid hdr
 clear hwd hdr
 refine pure_ (i := 0) (N := some 20) (v := ?_) (a' := ?_) #[true, false, false, false, false, false, false, false, false, false, false] rfl rfl (by kernel_rfl) (fun _ _ _ h => h) (Or.inl ⟨by rfl, ?_⟩) ?_ ?_
 rotate_left
 ·intro w'
  go_simp
  with_reducible rfl
 rotate_left
 ·simp only [Act.put, List.setIfInBounds_toArray, List.set_cons_zero, List.set_cons_succ, i64_w, i32_w]
  rfl
 refine pure_ (i := 1) (N := some 21) (v := ?_) (a' := ?_) #[true, true, false, false, false, false, false, false, false, false, false] rfl rfl (by kernel_rfl) (fun _ _ _ h => h) (Or.inl ⟨by rfl, ?_⟩) ?_ ?_
 rotate_left
 ·intro w'
  go_simp
  with_reducible rfl
 rotate_left
 ·simp only [Act.put, List.setIfInBounds_toArray, List.set_cons_zero, List.set_cons_succ, i64_w, i32_w]
  rfl
 refine pure_ (i := 3) (N := some 23) (v := ?_) (a' := ?_) #[true, true, false, true, false, false, false, false, false, false, false] rfl rfl (by kernel_rfl) (fun _ _ _ h => h) (Or.inl ⟨by rfl, ?_⟩) ?_ ?_
 rotate_left
 ·intro w'
  go_simp
  with_reducible rfl
 rotate_left
 ·simp only [Act.put, List.setIfInBounds_toArray, List.set_cons_zero, List.set_cons_succ, i64_w, i32_w]
  rfl
 refine pure_ (i := 4) (N := some 24) (v := ?_) (a' := ?_) #[true, true, false, true, true, false, false, false, false, false, false] rfl rfl (by kernel_rfl) (fun _ _ _ h => h) (Or.inl ⟨by rfl, ?_⟩) ?_ ?_
 rotate_left
 ·intro w'
  go_simp
  with_reducible rfl
 rotate_left
 ·simp only [Act.put, List.setIfInBounds_toArray, List.set_cons_zero, List.set_cons_succ, i64_w, i32_w]
  rfl
 refine take_ (i := 2) (N := some 22) (v := ?_) (a' := ?_) #[true, true, true, true, true, false, false, false, false, false, false] rfl rfl (by kernel_rfl) (fun _ _ _ h => h) (Or.inl ⟨by rfl, ?_⟩) hHeld ?_ ?_
 rotate_left
 ·rintro w' ⟨s0, s1, s2⟩
  go_simp
  with_reducible rfl
 rotate_left
 ·simp only [Act.put, List.setIfInBounds_toArray, List.set_cons_zero, List.set_cons_succ, i64_w, i32_w]
  rfl
 refine take_ (i := 5) (N := some 25) (v := ?_) (a' := ?_) #[true, true, true, true, true, true, false, false, false, false, false] rfl rfl (by kernel_rfl) (fun _ _ _ h => h) (Or.inl ⟨by rfl, ?_⟩) hHeld ?_ ?_
 rotate_left
 ·rintro w' ⟨s0, s1, s2⟩
  go_simp
  with_reducible rfl
 rotate_left
 ·simp only [Act.put, List.setIfInBounds_toArray, List.set_cons_zero, List.set_cons_succ, i64_w, i32_w]
  rfl
 refine one_ (i := 6) (N := some 26) #[true, true, true, true, true, true, true, false, false, false, false] rfl rfl (by kernel_rfl) (by decide) (fun K hK => ?_)
 refine goes_ Tryz.func104 (by kernel_rfl) rfl #[.int .i64 a, .int .i64 b] (by rfl) rfl rfl (by simp only [List.map_toArray, List.map_cons, List.map_nil]; rfl) ?_
 with_reducible refine (sub_any a b wd).mono ?_
 rintro e w3 ⟨rfl, hb3⟩
 refine ⟨_, rfl, ?_⟩
 have HB3 := Lib.hid (s_trans HBd.out hb3)
 have hz := HC.out _ HB3.out
 clear hb3
 refine hK.out _ _ ⟨hz.1, hz.2.1, hz.2.2⟩ (fun hHeld => ?_)
 clear hK K
 refine norm_ (a' := ?_) ?_ ?_
 rotate_left
 ·show Act.put _ (some 26) _ = _
  simp only [Act.put, List.setIfInBounds_toArray, List.set_cons_zero, List.set_cons_succ, i64_w, i32_w]
  rfl
 refine pure_ (i := 7) (N := some 27) (v := ?_) (a' := ?_) #[true, true, true, true, true, true, true, true, false, false, false] rfl rfl (by kernel_rfl) (fun _ _ _ h => h) (Or.inl ⟨by rfl, ?_⟩) ?_ ?_
 rotate_left
 ·intro w'
  go_simp
  with_reducible rfl
 rotate_left
 ·simp only [Act.put, List.setIfInBounds_toArray, List.set_cons_zero, List.set_cons_succ, i64_w, i32_w]
  rfl
 refine pure_ (i := 8) (N := some 28) (v := ?_) (a' := ?_) #[true, true, true, true, true, true, true, true, true, false, false] rfl rfl (by kernel_rfl) (fun _ _ _ h => h) (Or.inl ⟨by rfl, ?_⟩) ?_ ?_
 rotate_left
 ·intro w'
  go_simp
  with_reducible rfl
 rotate_left
 ·simp only [Act.put, List.setIfInBounds_toArray, List.set_cons_zero, List.set_cons_succ, i64_w, i32_w]
  rfl
 refine pure_ (i := 9) (N := some 4) (v := ?_) (a' := ?_) #[true, true, true, true, true, true, true, true, true, true, false] rfl rfl (by kernel_rfl) (fun _ _ _ h => h) (Or.inl ⟨by rfl, ?_⟩) ?_ ?_
 rotate_left
 ·intro w'
  go_simp
  with_reducible rfl
 rotate_left
 ·simp only [Act.put, List.setIfInBounds_toArray, List.set_cons_zero, List.set_cons_succ, i64_w, i32_w]
  rfl
 refine pure_ (i := 10) (N := some 5) (v := ?_) (a' := ?_) #[true, true, true, true, true, true, true, true, true, true, true] rfl rfl (by kernel_rfl) (fun _ _ _ h => h) (Or.inl ⟨by rfl, ?_⟩) ?_ ?_
 rotate_left
 ·intro w'
  go_simp
  with_reducible rfl
 rotate_left
 ·simp only [Act.put, List.setIfInBounds_toArray, List.set_cons_zero, List.set_cons_succ, i64_w, i32_w]
  rfl
 refine done_ (by kernel_rfl) ?_
 go_wp2
 go_ret2
 exact ⟨rfl, HB3.out⟩
set_option maxRecDepth 100000 in
set_option maxHeartbeats 2000000 in
theorem made_7 (A : Option Addr) (c : Nat) (a b : Int) (w : World) (h : Money.RInt w A 2 [a, b]) : Calls Tryz.prog 60 #[.int .i64 7, .slice A 2 c] w fun e w' => e = .returned (.tuple #[.int .i64 (madeE 7 [a, b]).1, .int .i64 (madeE 7 [a, b]).2]) ∧ Below w.heap.size w w' := by
 obtain ⟨ad, rfl, q0⟩ := h.2.2 0 (by omega)
 obtain ⟨_, e1, q1⟩ := h.2.2 1 (by omega)
 cases e1
 have hy : (fun W : World => W.cell? ad = some (.int .i64 a) ∧ W.cell? (ad.add 1) = some (.int .i64 b) ∧ W.cell? ⟨ad.block, ad.off + 1, none⟩ = some (.int .i64 b)) w := ⟨q0, q1, q1⟩
 have hc : ∀ W : World, Below w.heap.size w W → W.cell? ad = some (.int .i64 a) ∧ W.cell? (ad.add 1) = some (.int .i64 b) ∧ W.cell? ⟨ad.block, ad.off + 1, none⟩ = some (.int .i64 b) := fun W hb => by
  have q : ∀ (p : Addr) (v : Value), w.cell? p = some v → W.cell? p = some v := fun p v e => (hb.cell (p := p) (World.block_lt_of_cell? w _ e)).trans e
  exact ⟨q _ _ q0, q _ _ q1, q _ _ q1⟩
 have HC := Lib.hid hc
 clear hc q0 q1 h
 go_enter Tryz.func60, Tryz.ntmps60
 go_upto_region 9 with fail
 refine start_ (n := 12) (S := fun w' => w'.cell? ad = some (.int .i64 a) ∧ w'.cell? (ad.add 1) = some (.int .i64 b) ∧ w'.cell? ⟨ad.block, ad.off + 1, none⟩ = some (.int .i64 b)) (ds := []) #[false, false, false, false, false, false, false, false, false, false, false, false] (by kernel_rfl) rfl rfl ⟨hy.1, hy.2.1, hy.2.2⟩ (fun hHeld => ?_)
 obtain ⟨wd, hwd⟩ : ∃ W, W = w.drew := ⟨_, rfl⟩
 rw [← hwd] at hHeld
 rw [← hwd]
 have hdr : Below w.heap.size w wd := by rw [hwd]; exact s_drew (Below.refl _ _)
 have HBd := Lib.hid hdr
 clear hwd hdr
 refine pure_ (i := 0) (N := some 39) (v := ?_) (a' := ?_) #[true, false, false, false, false, false, false, false, false, false, false, false] rfl rfl (by kernel_rfl) (fun _ _ _ h => h) (Or.inl ⟨by rfl, ?_⟩) ?_ ?_
 rotate_left
 ·intro w'
  go_simp
  with_reducible rfl
 rotate_left
 ·simp only [Act.put, List.setIfInBounds_toArray, List.set_cons_zero, List.set_cons_succ, i64_w, i32_w]
  rfl
 refine pure_ (i := 1) (N := some 40) (v := ?_) (a' := ?_) #[true, true, false, false, false, false, false, false, false, false, false, false] rfl rfl (by kernel_rfl) (fun _ _ _ h => h) (Or.inl ⟨by rfl, ?_⟩) ?_ ?_
 rotate_left
 ·intro w'
  go_simp
  with_reducible rfl
 rotate_left
 ·simp only [Act.put, List.setIfInBounds_toArray, List.set_cons_zero, List.set_cons_succ, i64_w, i32_w]
  rfl
 refine pure_ (i := 3) (N := some 42) (v := ?_) (a' := ?_) #[true, true, false, true, false, false, false, false, false, false, false, false] rfl rfl (by kernel_rfl) (fun _ _ _ h => h) (Or.inl ⟨by rfl, ?_⟩) ?_ ?_
 rotate_left
 ·intro w'
  go_simp
  with_reducible rfl
 rotate_left
 ·simp only [Act.put, List.setIfInBounds_toArray, List.set_cons_zero, List.set_cons_succ, i64_w, i32_w]
  rfl
 refine pure_ (i := 4) (N := some 43) (v := ?_) (a' := ?_) #[true, true, false, true, true, false, false, false, false, false, false, false] rfl rfl (by kernel_rfl) (fun _ _ _ h => h) (Or.inl ⟨by rfl, ?_⟩) ?_ ?_
 rotate_left
 ·intro w'
  go_simp
  with_reducible rfl
 rotate_left
 ·simp only [Act.put, List.setIfInBounds_toArray, List.set_cons_zero, List.set_cons_succ, i64_w, i32_w]
  rfl
 refine take_ (i := 2) (N := some 41) (v := ?_) (a' := ?_) #[true, true, true, true, true, false, false, false, false, false, false, false] rfl rfl (by kernel_rfl) (fun _ _ _ h => h) (Or.inl ⟨by rfl, ?_⟩) hHeld ?_ ?_
 rotate_left
 ·rintro w' ⟨s0, s1, s2⟩
  go_simp
  with_reducible rfl
 rotate_left
 ·simp only [Act.put, List.setIfInBounds_toArray, List.set_cons_zero, List.set_cons_succ, i64_w, i32_w]
  rfl
 refine take_ (i := 5) (N := some 44) (v := ?_) (a' := ?_) #[true, true, true, true, true, true, false, false, false, false, false, false] rfl rfl (by kernel_rfl) (fun _ _ _ h => h) (Or.inl ⟨by rfl, ?_⟩) hHeld ?_ ?_
 rotate_left
 ·rintro w' ⟨s0, s1, s2⟩
  go_simp
  with_reducible rfl
 rotate_left
 ·simp only [Act.put, List.setIfInBounds_toArray, List.set_cons_zero, List.set_cons_succ, i64_w, i32_w]
  rfl
 refine pure_ (i := 6) (N := some 45) (v := ?_) (a' := ?_) #[true, true, true, true, true, true, true, false, false, false, false, false] rfl rfl (by kernel_rfl) (fun _ _ _ h => h) (Or.inl ⟨by rfl, ?_⟩) ?_ ?_
 rotate_left
 ·intro w'
  go_simp
  with_reducible rfl
 rotate_left
 ·simp only [Act.put, List.setIfInBounds_toArray, List.set_cons_zero, List.set_cons_succ, i64_w, i32_w]
  rfl
 refine one_ (i := 7) (N := some 46) #[true, true, true, true, true, true, true, true, false, false, false, false] rfl rfl (by kernel_rfl) (by decide) (fun K hK => ?_)
 refine goes_ Tryz.func57 (by kernel_rfl) rfl #[.int .i64 (if b < a then b else a)] (by rfl) rfl rfl (by simp only [List.map_toArray, List.map_cons, List.map_nil]; rfl) ?_
 with_reducible refine (kept_any (if b < a then b else a) wd).mono ?_
 rintro e w4 ⟨rfl, hb4⟩
 refine ⟨_, rfl, ?_⟩
 have HB4 := Lib.hid (s_trans HBd.out hb4)
 have hz := HC.out _ HB4.out
 clear hb4
 refine hK.out _ _ ⟨hz.1, hz.2.1, hz.2.2⟩ (fun hHeld => ?_)
 clear hK K
 refine norm_ (a' := ?_) ?_ ?_
 rotate_left
 ·show Act.put _ (some 46) _ = _
  simp only [Act.put, List.setIfInBounds_toArray, List.set_cons_zero, List.set_cons_succ, i64_w, i32_w]
  rfl
 refine pure_ (i := 8) (N := some 47) (v := ?_) (a' := ?_) #[true, true, true, true, true, true, true, true, true, false, false, false] rfl rfl (by kernel_rfl) (fun _ _ _ h => h) (Or.inl ⟨by rfl, ?_⟩) ?_ ?_
 rotate_left
 ·intro w'
  go_simp
  with_reducible rfl
 rotate_left
 ·simp only [Act.put, List.setIfInBounds_toArray, List.set_cons_zero, List.set_cons_succ, i64_w, i32_w]
  rfl
 refine pure_ (i := 9) (N := some 48) (v := ?_) (a' := ?_) #[true, true, true, true, true, true, true, true, true, true, false, false] rfl rfl (by kernel_rfl) (fun _ _ _ h => h) (Or.inl ⟨by rfl, ?_⟩) ?_ ?_
 rotate_left
 ·intro w'
  go_simp
  with_reducible rfl
 rotate_left
 ·simp only [Act.put, List.setIfInBounds_toArray, List.set_cons_zero, List.set_cons_succ, i64_w, i32_w]
  rfl
 refine pure_ (i := 10) (N := some 4) (v := ?_) (a' := ?_) #[true, true, true, true, true, true, true, true, true, true, true, false] rfl rfl (by kernel_rfl) (fun _ _ _ h => h) (Or.inl ⟨by rfl, ?_⟩) ?_ ?_
 rotate_left
 ·intro w'
  go_simp
  with_reducible rfl
 rotate_left
 ·simp only [Act.put, List.setIfInBounds_toArray, List.set_cons_zero, List.set_cons_succ, i64_w, i32_w]
  rfl
 refine pure_ (i := 11) (N := some 5) (v := ?_) (a' := ?_) #[true, true, true, true, true, true, true, true, true, true, true, true] rfl rfl (by kernel_rfl) (fun _ _ _ h => h) (Or.inl ⟨by rfl, ?_⟩) ?_ ?_
 rotate_left
 ·intro w'
  go_simp
  with_reducible rfl
 rotate_left
 ·simp only [Act.put, List.setIfInBounds_toArray, List.set_cons_zero, List.set_cons_succ, i64_w, i32_w]
  rfl
 refine done_ (by kernel_rfl) ?_
 go_wp2
 all_goals
  go_ret2
  exact ⟨by simp [madeE, *] <;> (intro _; omega), HB4.out⟩
set_option maxRecDepth 100000 in
set_option maxHeartbeats 2000000 in
theorem made_8 (A : Option Addr) (c : Nat) (a b : Int) (w : World) (h : Money.RInt w A 2 [a, b]) : Calls Tryz.prog 60 #[.int .i64 8, .slice A 2 c] w fun e w' => e = .returned (.tuple #[.int .i64 (madeE 8 [a, b]).1, .int .i64 (madeE 8 [a, b]).2]) ∧ Below w.heap.size w w' := by
 obtain ⟨ad, rfl, q0⟩ := h.2.2 0 (by omega)
 obtain ⟨_, e1, q1⟩ := h.2.2 1 (by omega)
 cases e1
 have hy : (fun W : World => W.cell? ad = some (.int .i64 a) ∧ W.cell? (ad.add 1) = some (.int .i64 b) ∧ W.cell? ⟨ad.block, ad.off + 1, none⟩ = some (.int .i64 b)) w := ⟨q0, q1, q1⟩
 have hc : ∀ W : World, Below w.heap.size w W → W.cell? ad = some (.int .i64 a) ∧ W.cell? (ad.add 1) = some (.int .i64 b) ∧ W.cell? ⟨ad.block, ad.off + 1, none⟩ = some (.int .i64 b) := fun W hb => by
  have q : ∀ (p : Addr) (v : Value), w.cell? p = some v → W.cell? p = some v := fun p v e => (hb.cell (p := p) (World.block_lt_of_cell? w _ e)).trans e
  exact ⟨q _ _ q0, q _ _ q1, q _ _ q1⟩
 have HC := Lib.hid hc
 clear hc q0 q1 h
 go_enter Tryz.func60, Tryz.ntmps60
 go_upto_region 11 with fail
 refine start_ (n := 12) (S := fun w' => w'.cell? ad = some (.int .i64 a) ∧ w'.cell? (ad.add 1) = some (.int .i64 b) ∧ w'.cell? ⟨ad.block, ad.off + 1, none⟩ = some (.int .i64 b)) (ds := []) #[false, false, false, false, false, false, false, false, false, false, false, false] (by kernel_rfl) rfl rfl ⟨hy.1, hy.2.1, hy.2.2⟩ (fun hHeld => ?_)
 obtain ⟨wd, hwd⟩ : ∃ W, W = w.drew := ⟨_, rfl⟩
 rw [← hwd] at hHeld
 rw [← hwd]
 have hdr : Below w.heap.size w wd := by rw [hwd]; exact s_drew (Below.refl _ _)
 have HBd := Lib.hid hdr
 clear hwd hdr
 refine pure_ (i := 0) (N := some 51) (v := ?_) (a' := ?_) #[true, false, false, false, false, false, false, false, false, false, false, false] rfl rfl (by kernel_rfl) (fun _ _ _ h => h) (Or.inl ⟨by rfl, ?_⟩) ?_ ?_
 rotate_left
 ·intro w'
  go_simp
  with_reducible rfl
 rotate_left
 ·simp only [Act.put, List.setIfInBounds_toArray, List.set_cons_zero, List.set_cons_succ, i64_w, i32_w]
  rfl
 refine pure_ (i := 1) (N := some 52) (v := ?_) (a' := ?_) #[true, true, false, false, false, false, false, false, false, false, false, false] rfl rfl (by kernel_rfl) (fun _ _ _ h => h) (Or.inl ⟨by rfl, ?_⟩) ?_ ?_
 rotate_left
 ·intro w'
  go_simp
  with_reducible rfl
 rotate_left
 ·simp only [Act.put, List.setIfInBounds_toArray, List.set_cons_zero, List.set_cons_succ, i64_w, i32_w]
  rfl
 refine pure_ (i := 3) (N := some 54) (v := ?_) (a' := ?_) #[true, true, false, true, false, false, false, false, false, false, false, false] rfl rfl (by kernel_rfl) (fun _ _ _ h => h) (Or.inl ⟨by rfl, ?_⟩) ?_ ?_
 rotate_left
 ·intro w'
  go_simp
  with_reducible rfl
 rotate_left
 ·simp only [Act.put, List.setIfInBounds_toArray, List.set_cons_zero, List.set_cons_succ, i64_w, i32_w]
  rfl
 refine pure_ (i := 4) (N := some 55) (v := ?_) (a' := ?_) #[true, true, false, true, true, false, false, false, false, false, false, false] rfl rfl (by kernel_rfl) (fun _ _ _ h => h) (Or.inl ⟨by rfl, ?_⟩) ?_ ?_
 rotate_left
 ·intro w'
  go_simp
  with_reducible rfl
 rotate_left
 ·simp only [Act.put, List.setIfInBounds_toArray, List.set_cons_zero, List.set_cons_succ, i64_w, i32_w]
  rfl
 refine take_ (i := 2) (N := some 53) (v := ?_) (a' := ?_) #[true, true, true, true, true, false, false, false, false, false, false, false] rfl rfl (by kernel_rfl) (fun _ _ _ h => h) (Or.inl ⟨by rfl, ?_⟩) hHeld ?_ ?_
 rotate_left
 ·rintro w' ⟨s0, s1, s2⟩
  go_simp
  with_reducible rfl
 rotate_left
 ·simp only [Act.put, List.setIfInBounds_toArray, List.set_cons_zero, List.set_cons_succ, i64_w, i32_w]
  rfl
 refine take_ (i := 5) (N := some 56) (v := ?_) (a' := ?_) #[true, true, true, true, true, true, false, false, false, false, false, false] rfl rfl (by kernel_rfl) (fun _ _ _ h => h) (Or.inl ⟨by rfl, ?_⟩) hHeld ?_ ?_
 rotate_left
 ·rintro w' ⟨s0, s1, s2⟩
  go_simp
  with_reducible rfl
 rotate_left
 ·simp only [Act.put, List.setIfInBounds_toArray, List.set_cons_zero, List.set_cons_succ, i64_w, i32_w]
  rfl
 refine pure_ (i := 6) (N := some 57) (v := ?_) (a' := ?_) #[true, true, true, true, true, true, true, false, false, false, false, false] rfl rfl (by kernel_rfl) (fun _ _ _ h => h) (Or.inl ⟨by rfl, ?_⟩) ?_ ?_
 rotate_left
 ·intro w'
  go_simp
  with_reducible rfl
 rotate_left
 ·simp only [Act.put, List.setIfInBounds_toArray, List.set_cons_zero, List.set_cons_succ, i64_w, i32_w]
  rfl
 refine one_ (i := 7) (N := some 58) #[true, true, true, true, true, true, true, true, false, false, false, false] rfl rfl (by kernel_rfl) (by decide) (fun K hK => ?_)
 refine goes_ Tryz.func57 (by kernel_rfl) rfl #[.int .i64 (if a < b then b else a)] (by rfl) rfl rfl (by simp only [List.map_toArray, List.map_cons, List.map_nil]; rfl) ?_
 with_reducible refine (kept_any (if a < b then b else a) wd).mono ?_
 rintro e w4 ⟨rfl, hb4⟩
 refine ⟨_, rfl, ?_⟩
 have HB4 := Lib.hid (s_trans HBd.out hb4)
 have hz := HC.out _ HB4.out
 clear hb4
 refine hK.out _ _ ⟨hz.1, hz.2.1, hz.2.2⟩ (fun hHeld => ?_)
 clear hK K
 refine norm_ (a' := ?_) ?_ ?_
 rotate_left
 ·show Act.put _ (some 58) _ = _
  simp only [Act.put, List.setIfInBounds_toArray, List.set_cons_zero, List.set_cons_succ, i64_w, i32_w]
  rfl
 refine pure_ (i := 8) (N := some 59) (v := ?_) (a' := ?_) #[true, true, true, true, true, true, true, true, true, false, false, false] rfl rfl (by kernel_rfl) (fun _ _ _ h => h) (Or.inl ⟨by rfl, ?_⟩) ?_ ?_
 rotate_left
 ·intro w'
  go_simp
  with_reducible rfl
 rotate_left
 ·simp only [Act.put, List.setIfInBounds_toArray, List.set_cons_zero, List.set_cons_succ, i64_w, i32_w]
  rfl
 refine pure_ (i := 9) (N := some 60) (v := ?_) (a' := ?_) #[true, true, true, true, true, true, true, true, true, true, false, false] rfl rfl (by kernel_rfl) (fun _ _ _ h => h) (Or.inl ⟨by rfl, ?_⟩) ?_ ?_
 rotate_left
 ·intro w'
  go_simp
  with_reducible rfl
 rotate_left
 ·simp only [Act.put, List.setIfInBounds_toArray, List.set_cons_zero, List.set_cons_succ, i64_w, i32_w]
  rfl
 refine pure_ (i := 10) (N := some 4) (v := ?_) (a' := ?_) #[true, true, true, true, true, true, true, true, true, true, true, false] rfl rfl (by kernel_rfl) (fun _ _ _ h => h) (Or.inl ⟨by rfl, ?_⟩) ?_ ?_
 rotate_left
 ·intro w'
  go_simp
  with_reducible rfl
 rotate_left
 ·simp only [Act.put, List.setIfInBounds_toArray, List.set_cons_zero, List.set_cons_succ, i64_w, i32_w]
  rfl
 refine pure_ (i := 11) (N := some 5) (v := ?_) (a' := ?_) #[true, true, true, true, true, true, true, true, true, true, true, true] rfl rfl (by kernel_rfl) (fun _ _ _ h => h) (Or.inl ⟨by rfl, ?_⟩) ?_ ?_
 rotate_left
 ·intro w'
  go_simp
  with_reducible rfl
 rotate_left
 ·simp only [Act.put, List.setIfInBounds_toArray, List.set_cons_zero, List.set_cons_succ, i64_w, i32_w]
  rfl
 refine done_ (by kernel_rfl) ?_
 go_wp2
 all_goals
  go_ret2
  exact ⟨by simp [madeE, *] <;> (intro _; omega), HB4.out⟩
set_option maxRecDepth 100000 in
set_option maxHeartbeats 2000000 in
theorem made_9 (A : Option Addr) (c : Nat) (a b c' : Int) (w : World) (h : Money.RInt w A 3 [a, b, c']) : Calls Tryz.prog 60 #[.int .i64 9, .slice A 3 c] w fun e w' => e = .returned (.tuple #[.int .i64 (madeE 9 [a, b, c']).1, .int .i64 (madeE 9 [a, b, c']).2]) ∧ Below w.heap.size w w' := by
 obtain ⟨ad, rfl, q0⟩ := h.2.2 0 (by omega)
 obtain ⟨_, e1, q1⟩ := h.2.2 1 (by omega)
 cases e1
 obtain ⟨_, e2, q2⟩ := h.2.2 2 (by omega)
 cases e2
 have hy : (fun W : World => W.cell? ad = some (.int .i64 a) ∧ W.cell? (ad.add 1) = some (.int .i64 b) ∧ W.cell? ⟨ad.block, ad.off + 1, none⟩ = some (.int .i64 b) ∧ W.cell? (ad.add 2) = some (.int .i64 c') ∧ W.cell? ⟨ad.block, ad.off + 2, none⟩ = some (.int .i64 c')) w := ⟨q0, q1, q1, q2, q2⟩
 have hc : ∀ W : World, Below w.heap.size w W → W.cell? ad = some (.int .i64 a) ∧ W.cell? (ad.add 1) = some (.int .i64 b) ∧ W.cell? ⟨ad.block, ad.off + 1, none⟩ = some (.int .i64 b) ∧ W.cell? (ad.add 2) = some (.int .i64 c') ∧ W.cell? ⟨ad.block, ad.off + 2, none⟩ = some (.int .i64 c') := fun W hb => by
  have q : ∀ (p : Addr) (v : Value), w.cell? p = some v → W.cell? p = some v := fun p v e => (hb.cell (p := p) (World.block_lt_of_cell? w _ e)).trans e
  exact ⟨q _ _ q0, q _ _ q1, q _ _ q1, q _ _ q2, q _ _ q2⟩
 have HC := Lib.hid hc
 clear hc q0 q1 q2 h
 go_enter Tryz.func60, Tryz.ntmps60
 go_upto_region 12 with fail
 refine start_ (n := 15) (S := fun w' => w'.cell? ad = some (.int .i64 a) ∧ w'.cell? (ad.add 1) = some (.int .i64 b) ∧ w'.cell? ⟨ad.block, ad.off + 1, none⟩ = some (.int .i64 b) ∧ w'.cell? (ad.add 2) = some (.int .i64 c') ∧ w'.cell? ⟨ad.block, ad.off + 2, none⟩ = some (.int .i64 c')) (ds := []) #[false, false, false, false, false, false, false, false, false, false, false, false, false, false, false] (by kernel_rfl) rfl rfl ⟨hy.1, hy.2.1, hy.2.2.1, hy.2.2.2.1, hy.2.2.2.2⟩ (fun hHeld => ?_)
 obtain ⟨wd, hwd⟩ : ∃ W, W = w.drew := ⟨_, rfl⟩
 rw [← hwd] at hHeld
 rw [← hwd]
 have hdr : Below w.heap.size w wd := by rw [hwd]; exact s_drew (Below.refl _ _)
 have HBd := Lib.hid hdr
 clear hwd hdr
 refine pure_ (i := 0) (N := some 61) (v := ?_) (a' := ?_) #[true, false, false, false, false, false, false, false, false, false, false, false, false, false, false] rfl rfl (by kernel_rfl) (fun _ _ _ h => h) (Or.inl ⟨by rfl, ?_⟩) ?_ ?_
 rotate_left
 ·intro w'
  go_simp
  with_reducible rfl
 rotate_left
 ·simp only [Act.put, List.setIfInBounds_toArray, List.set_cons_zero, List.set_cons_succ, i64_w, i32_w]
  rfl
 refine pure_ (i := 1) (N := some 62) (v := ?_) (a' := ?_) #[true, true, false, false, false, false, false, false, false, false, false, false, false, false, false] rfl rfl (by kernel_rfl) (fun _ _ _ h => h) (Or.inl ⟨by rfl, ?_⟩) ?_ ?_
 rotate_left
 ·intro w'
  go_simp
  with_reducible rfl
 rotate_left
 ·simp only [Act.put, List.setIfInBounds_toArray, List.set_cons_zero, List.set_cons_succ, i64_w, i32_w]
  rfl
 refine pure_ (i := 3) (N := some 64) (v := ?_) (a' := ?_) #[true, true, false, true, false, false, false, false, false, false, false, false, false, false, false] rfl rfl (by kernel_rfl) (fun _ _ _ h => h) (Or.inl ⟨by rfl, ?_⟩) ?_ ?_
 rotate_left
 ·intro w'
  go_simp
  with_reducible rfl
 rotate_left
 ·simp only [Act.put, List.setIfInBounds_toArray, List.set_cons_zero, List.set_cons_succ, i64_w, i32_w]
  rfl
 refine pure_ (i := 4) (N := some 65) (v := ?_) (a' := ?_) #[true, true, false, true, true, false, false, false, false, false, false, false, false, false, false] rfl rfl (by kernel_rfl) (fun _ _ _ h => h) (Or.inl ⟨by rfl, ?_⟩) ?_ ?_
 rotate_left
 ·intro w'
  go_simp
  with_reducible rfl
 rotate_left
 ·simp only [Act.put, List.setIfInBounds_toArray, List.set_cons_zero, List.set_cons_succ, i64_w, i32_w]
  rfl
 refine pure_ (i := 6) (N := some 67) (v := ?_) (a' := ?_) #[true, true, false, true, true, false, true, false, false, false, false, false, false, false, false] rfl rfl (by kernel_rfl) (fun _ _ _ h => h) (Or.inl ⟨by rfl, ?_⟩) ?_ ?_
 rotate_left
 ·intro w'
  go_simp
  with_reducible rfl
 rotate_left
 ·simp only [Act.put, List.setIfInBounds_toArray, List.set_cons_zero, List.set_cons_succ, i64_w, i32_w]
  rfl
 refine pure_ (i := 7) (N := some 68) (v := ?_) (a' := ?_) #[true, true, false, true, true, false, true, true, false, false, false, false, false, false, false] rfl rfl (by kernel_rfl) (fun _ _ _ h => h) (Or.inl ⟨by rfl, ?_⟩) ?_ ?_
 rotate_left
 ·intro w'
  go_simp
  with_reducible rfl
 rotate_left
 ·simp only [Act.put, List.setIfInBounds_toArray, List.set_cons_zero, List.set_cons_succ, i64_w, i32_w]
  rfl
 refine take_ (i := 2) (N := some 63) (v := ?_) (a' := ?_) #[true, true, true, true, true, false, true, true, false, false, false, false, false, false, false] rfl rfl (by kernel_rfl) (fun _ _ _ h => h) (Or.inl ⟨by rfl, ?_⟩) hHeld ?_ ?_
 rotate_left
 ·rintro w' ⟨s0, s1, s2, s3, s4⟩
  go_simp
  with_reducible rfl
 rotate_left
 ·simp only [Act.put, List.setIfInBounds_toArray, List.set_cons_zero, List.set_cons_succ, i64_w, i32_w]
  rfl
 refine take_ (i := 5) (N := some 66) (v := ?_) (a' := ?_) #[true, true, true, true, true, true, true, true, false, false, false, false, false, false, false] rfl rfl (by kernel_rfl) (fun _ _ _ h => h) (Or.inl ⟨by rfl, ?_⟩) hHeld ?_ ?_
 rotate_left
 ·rintro w' ⟨s0, s1, s2, s3, s4⟩
  go_simp
  with_reducible rfl
 rotate_left
 ·simp only [Act.put, List.setIfInBounds_toArray, List.set_cons_zero, List.set_cons_succ, i64_w, i32_w]
  rfl
 refine take_ (i := 8) (N := some 69) (v := ?_) (a' := ?_) #[true, true, true, true, true, true, true, true, true, false, false, false, false, false, false] rfl rfl (by kernel_rfl) (fun _ _ _ h => h) (Or.inl ⟨by rfl, ?_⟩) hHeld ?_ ?_
 rotate_left
 ·rintro w' ⟨s0, s1, s2, s3, s4⟩
  go_simp
  with_reducible rfl
 rotate_left
 ·simp only [Act.put, List.setIfInBounds_toArray, List.set_cons_zero, List.set_cons_succ, i64_w, i32_w]
  rfl
 refine one_ (i := 9) (N := some 70) #[true, true, true, true, true, true, true, true, true, true, false, false, false, false, false] rfl rfl (by kernel_rfl) (by decide) (fun K hK => ?_)
 refine goes_ Tryz.func106 (by kernel_rfl) rfl #[.int .i64 a, .int .i64 b, .int .i64 c'] (by rfl) rfl rfl (by simp only [List.map_toArray, List.map_cons, List.map_nil]; rfl) ?_
 with_reducible refine (clamp_any a b c' wd).mono ?_
 rintro e w3 ⟨rfl, hb3⟩
 refine ⟨_, rfl, ?_⟩
 have HB3 := Lib.hid (s_trans HBd.out hb3)
 have hz := HC.out _ HB3.out
 clear hb3
 refine hK.out _ _ ⟨hz.1, hz.2.1, hz.2.2.1, hz.2.2.2.1, hz.2.2.2.2⟩ (fun hHeld => ?_)
 clear hK K
 refine norm_ (a' := ?_) ?_ ?_
 rotate_left
 ·show Act.put _ (some 70) _ = _
  simp only [Act.put, List.setIfInBounds_toArray, List.set_cons_zero, List.set_cons_succ, i64_w, i32_w]
  rfl
 refine one_ (i := 10) (N := some 71) #[true, true, true, true, true, true, true, true, true, true, true, false, false, false, false] rfl rfl (by kernel_rfl) (by decide) (fun K hK => ?_)
 refine goes_ Tryz.func57 (by kernel_rfl) rfl #[.int .i64 (clampZ a b c')] (by rfl) rfl rfl (by simp only [List.map_toArray, List.map_cons, List.map_nil]; rfl) ?_
 with_reducible refine (kept_any (clampZ a b c') w3).mono ?_
 rintro e w4 ⟨rfl, hb4⟩
 refine ⟨_, rfl, ?_⟩
 have HB4 := Lib.hid (s_trans HB3.out hb4)
 have hz := HC.out _ HB4.out
 clear hb4
 refine hK.out _ _ ⟨hz.1, hz.2.1, hz.2.2.1, hz.2.2.2.1, hz.2.2.2.2⟩ (fun hHeld => ?_)
 clear hK K
 refine norm_ (a' := ?_) ?_ ?_
 rotate_left
 ·show Act.put _ (some 71) _ = _
  simp only [Act.put, List.setIfInBounds_toArray, List.set_cons_zero, List.set_cons_succ, i64_w, i32_w]
  rfl
 refine pure_ (i := 11) (N := some 72) (v := ?_) (a' := ?_) #[true, true, true, true, true, true, true, true, true, true, true, true, false, false, false] rfl rfl (by kernel_rfl) (fun _ _ _ h => h) (Or.inl ⟨by rfl, ?_⟩) ?_ ?_
 rotate_left
 ·intro w'
  go_simp
  with_reducible rfl
 rotate_left
 ·simp only [Act.put, List.setIfInBounds_toArray, List.set_cons_zero, List.set_cons_succ, i64_w, i32_w]
  rfl
 refine pure_ (i := 12) (N := some 73) (v := ?_) (a' := ?_) #[true, true, true, true, true, true, true, true, true, true, true, true, true, false, false] rfl rfl (by kernel_rfl) (fun _ _ _ h => h) (Or.inl ⟨by rfl, ?_⟩) ?_ ?_
 rotate_left
 ·intro w'
  go_simp
  with_reducible rfl
 rotate_left
 ·simp only [Act.put, List.setIfInBounds_toArray, List.set_cons_zero, List.set_cons_succ, i64_w, i32_w]
  rfl
 refine pure_ (i := 13) (N := some 4) (v := ?_) (a' := ?_) #[true, true, true, true, true, true, true, true, true, true, true, true, true, true, false] rfl rfl (by kernel_rfl) (fun _ _ _ h => h) (Or.inl ⟨by rfl, ?_⟩) ?_ ?_
 rotate_left
 ·intro w'
  go_simp
  with_reducible rfl
 rotate_left
 ·simp only [Act.put, List.setIfInBounds_toArray, List.set_cons_zero, List.set_cons_succ, i64_w, i32_w]
  rfl
 refine pure_ (i := 14) (N := some 5) (v := ?_) (a' := ?_) #[true, true, true, true, true, true, true, true, true, true, true, true, true, true, true] rfl rfl (by kernel_rfl) (fun _ _ _ h => h) (Or.inl ⟨by rfl, ?_⟩) ?_ ?_
 rotate_left
 ·intro w'
  go_simp
  with_reducible rfl
 rotate_left
 ·simp only [Act.put, List.setIfInBounds_toArray, List.set_cons_zero, List.set_cons_succ, i64_w, i32_w]
  rfl
 refine done_ (by kernel_rfl) ?_
 go_wp2
 go_ret2
 exact ⟨rfl, HB4.out⟩
set_option maxRecDepth 100000 in
set_option maxHeartbeats 2000000 in
theorem made_6 (A : Option Addr) (c : Nat) (a : Int) (w : World) (h : Money.RInt w A 1 [a]) : Calls Tryz.prog 60 #[.int .i64 6, .slice A 1 c] w fun e w' => e = .returned (.tuple #[.int .i64 (madeE 6 [a]).1, .int .i64 (madeE 6 [a]).2]) ∧ Below w.heap.size w w' := by
 obtain ⟨ad, rfl, q0⟩ := h.2.2 0 (by omega)
 have q1 : w.cell? ad = some (.int .i64 a) := q0
 clear q0 h
 go_enter Tryz.func60, Tryz.ntmps60
 go_wp2_with (go_at_call 105; refine (neg_any a _).mono ?_; rintro e w3 ⟨rfl, hb⟩; have HB2 := Lib.hid hb; clear hb)
 go_ret2
 exact ⟨rfl, HB2.out⟩
end Go.Proofs.YtnaglnifpejpjaaGreatDoor.Ch

/-
  desk.total.
-/
namespace Go.Proofs.YtnaglnifpejpjaaGreatDoor.Ch
set_option linter.unusedVariables false
set_option linter.unusedSimpArgs false
set_option linter.unnecessarySimpa false
open Go.RowKit Go.Proofs.YtnaglnifpejpjaaGreatDoorK Go.Proofs.YtnaglnifpejpjaaGreatDoor.XEvalRuns Go.Proofs.YtnaglnifpejpjaaGreatDoorW.PrintWords Go.Proofs.YtnaglnifpejpjaaGreatDoorW.PrintLast

theorem add_add (a : Addr) (m j : Nat) : (a.add m).add j = a.add (m + j) := by
 unfold Addr.add
 by_cases h1 : m = 0 <;> by_cases h2 : j = 0 <;> simp [h1, h2, Nat.add_assoc]
theorem rdRow (l : List S45) (i : Nat) (h : i < l.length) : rd_T45 l (i : Int) = l[i] := by unfold rd_T45; rw [Int.toNat_natCast, List.getD_eq_getElem?_getD, List.getElem?_eq_getElem h]; rfl
theorem row_at {w : World} {A : Option Addr} {l : List S45} (h : Kd.C k45 w A l.length l) (k : Nat) (hk : k < l.length) : ∃ ad, A = some ad ∧ RowTake.At w (ad.add (k * 17)) (rC l[k]).toList := by
 obtain ⟨ad, c, e, _, hK, hc0⟩ := Kd.C_get h z45 (k : Int) (by omega) (by omega)
 have hc : ∀ j u, c[j]? = some u → w.cell? (ad.add (k * 17 + j)) = some u := hc0
 have hy : l.getD (k : Int).toNat z45 = l[k] := rdRow l k hk
 rw [hy] at hK
 obtain rfl := k45_open hK
 exact ⟨ad, e, fun j v hv => by rw [add_add]; exact hc j v hv⟩
theorem Small.filters {x : S25} (h : Small x) : x.f3.length < 1000000000000 := by
 obtain ⟨k, n, f, fs, ks⟩ := x
 rw [Small] at h
 exact h.1
def amounts (rows : List S45) (x : S25) : List Int := (rows.filter fun r => selB r x.f3).map fun r => (fieldV r x.f2).1
def totE (rows : List S45) (x : S25) : Int × Int := if namesB x = true then (Go.Proofs.YtnaglnifpejpjaaGreatDoorK.sumV (amounts rows x), Go.Proofs.YtnaglnifpejpjaaGreatDoorK.sumE (amounts rows x)) else (0, 80)
theorem amounts_len (rows : List S45) (x : S25) : (amounts rows x).length ≤ rows.length := by unfold amounts; rw [List.length_map]; exact List.length_filter_le _ _
theorem amounts_snoc (rows : List S45) (x : S25) (k : Nat) (h : k < rows.length) : amounts (rows.take (k + 1)) x = amounts (rows.take k) x ++ (if selB rows[k] x.f3 = true then [(fieldV rows[k] x.f2).1] else []) := by
 unfold amounts
 rw [List.take_succ_eq_append_getElem h, List.filter_append, List.map_append]
 congr 1
 by_cases hp : selB rows[k] x.f3 = true
 ·rw [if_pos hp]; simp [hp]
 ·rw [if_neg hp]; simp [hp]
theorem own_rint {w : World} {b : Nat} {l : List Int} {A : Option Addr} {c : Nat} (h : w.ownsRow b 3 1 (.slice A l.length c) l.length (l.map (Value.int .i64))) (hl : l.length ≤ 1000000) : Money.RInt w A l.length l := by
 refine ⟨rfl, by omega, fun j hj => ?_⟩
 obtain ⟨g, cap, u, e, _, _, _, hu, hc⟩ := own_at h hj
 cases e
 rw [List.getElem?_map, List.getElem?_eq_getElem hj] at hu
 obtain rfl := (Option.some.inj hu).symm
 refine ⟨_, rfl, ?_⟩
 rw [List.getD_eq_getElem?_getD, List.getElem?_eq_getElem hj, Addr.add_mid, Nat.zero_add]
 exact hc
set_option maxRecDepth 100000 in
set_option maxHeartbeats 4000000 in
theorem total_any (x : S25) (hs : Small x) (A4 : Option Addr) (c4 : Nat) (A5 : Option Addr) (c5 : Nat) (fv : Value) (A : Option Addr) (c : Nat) (rows : List S45) (w : World) (hin : EIn w x A4 c4 A5 c5) (hr : Kd.C k45 w A rows.length rows) (hc : rows.length ≤ c) (hl : rows.length ≤ 1000000) :
 Calls Tryz.prog 59 #[.agg #[.slice A rows.length c, fv], eV x A4 c4 A5 c5] w fun e w' => e = .returned (.tuple #[.int .i64 (totE rows x).1, .int .i64 (totE rows x).2]) ∧ Below w.heap.size w w' := by
 have hnm := fun W (hb : Below w.heap.size w W) => names_at x hs A4 c4 A5 c5 W (hin.below hb)
 obtain ⟨i0, hi0, hz0, hzs, hzb⟩ := info_parts infoI
 have hx0 : ((w.alloc (.cells #[.slice A rows.length c, fv] 73)).alloc (.cells #[.int .i64 x.f0, .int .i64 x.f1, .string x.f2, .slice A4 x.f3.length c4, .slice A5 x.f4.length c5] 25)).heap[w.heap.size]? = some (.cells #[.slice A rows.length c, fv] 73 (0, 0)) := two_old
 have hx1 : ((w.alloc (.cells #[.slice A rows.length c, fv] 73)).alloc (.cells #[.int .i64 x.f0, .int .i64 x.f1, .string x.f2, .slice A4 x.f3.length c4, .slice A5 x.f4.length c5] 25)).heap[w.heap.size + 1]? = some (.cells #[.int .i64 x.f0, .int .i64 x.f1, .string x.f2, .slice A4 x.f3.length c4, .slice A5 x.f4.length c5] 25 (0, 0)) := two_new
 have hb0 : Below w.heap.size w ((w.alloc (.cells #[.slice A rows.length c, fv] 73)).alloc (.cells #[.int .i64 x.f0, .int .i64 x.f1, .string x.f2, .slice A4 x.f3.length c4, .slice A5 x.f4.length c5] 25)) := s_alloc (s_alloc (Below.refl _ _) _) _
 obtain ⟨W1, hW⟩ : ∃ W : World, W = ((w.alloc (.cells #[.slice A rows.length c, fv] 73)).alloc (.cells #[.int .i64 x.f0, .int .i64 x.f1, .string x.f2, .slice A4 x.f3.length c4, .slice A5 x.f4.length c5] 25)) := ⟨_, rfl⟩
 rw [← hW] at hx0 hx1 hb0
 have HX0 := Lib.hid hx0
 have HX1 := Lib.hid hx1
 have HB0 := Lib.hid hb0
 have HR := Lib.hid (Kd.C_below hr hb0)
 have HIN := Lib.hid (hin.below hb0)
 have hfl := hin.l3
 clear hr hin
 unfold totE
 obtain ⟨nb, hnb⟩ : ∃ nb, namesB x = nb := ⟨_, rfl⟩
 rw [hnb] at hnm ⊢
 have HNM := Lib.hid (hnm W1 hb0)
 clear hnm hnb
 obtain ⟨y0, y1, y2, y3, y4⟩ := cells5 hx1
 cases nb with
 | false =>
   clear hx0 hx1 hb0
   go_enter Tryz.func59, Tryz.ntmps59
   go_upto_region 1 with fail
   rw [← hW]
   clear hW
   go_wp2_with (go_at_call 80; refine HNM.out.mono ?_; rintro e w2 ⟨rfl, hb⟩; have HB2 := Lib.hid (s_trans HB0.out hb); clear hb)
   go_ret2
   exact ⟨rfl, HB2.out⟩
 | true =>
   clear hx0 hx1 hb0
   go_enter Tryz.func59, Tryz.ntmps59
   go_upto_region 1 with fail
   rw [← hW]
   clear hW
   go_upto_region 4 with (go_at_call 80; refine HNM.out.mono ?_; rintro e w2 ⟨rfl, hb⟩; have HB2 := Lib.hid hb; clear hb)
   obtain ⟨z0, z1⟩ := cells2 (block_on HB2.out HX0.out)
   clear y0 y1 y2 y3 y4
   go_wp2
   clear z0 z1
   have HXE := Lib.hid (block_on HB2.out HX1.out)
   have HR2 := Lib.hid (Kd.C_below HR.out HB2.out)
   have HIN2 := Lib.hid (HIN.out.below HB2.out)
   go_loopw [6, 17] (fun v i wr => ∃ k : Nat, k ≤ rows.length ∧ i = .int .i64 k ∧ Hid (Below w2.heap.size w2 wr) ∧ Hid (wr.ownsRow w2.heap.size 3 1 v (amounts (rows.take k) x).length ((amounts (rows.take k) x).map (Value.int .i64)))) (fun _ i _ => rows.length - (intOf i).toNat)
   case atStart => exact ⟨0, Nat.zero_le _, rfl, Lib.hid (Below.refl _ _), by rw [List.take_zero]; exact Lib.hid (World.ownsRow_nil _ _ _ _)⟩
   case round =>
    obtain ⟨k, hk, rfl, HB, HO⟩ := hrel
    by_cases hlt : k < rows.length
    ·obtain ⟨ad0, e0, hrow⟩ := row_at (Kd.C_below HR2.out HB.out) k hlt
     have hsn := amounts_snoc rows x k hlt
     have hlen := amounts_len (rows.take k) x
     rw [List.length_take] at hlen
     cases e0
     generalize rows[k] = y at *
     generalize amounts (rows.take k) x = L at *
     have hsel := fun W (hb : Below wr.heap.size wr W) => sel_any y A4 c4 x.f3 W (Kd.C_below (HIN2.out.below HB.out).c3 hb) hfl hs.filters
     have hfld := fun W => field_calls y x.f2 W
     generalize (fieldV y x.f2).1 = fvl at *
     generalize (fieldV y x.f2).2 = fok at *
     have HROW := Lib.hid hrow
     have HSN := Lib.hid hsn
     have HFLD := Lib.hid hfld
     have hba : Below wr.heap.size wr (wr.alloc (.cells (rC y) 45)) := s_alloc (Below.refl _ _) _
     have hxa : (wr.alloc (.cells (rC y) 45)).heap[wr.heap.size]? = some (.cells (rC y) 45 (0, 0)) := heap_alloc_last _ _
     obtain ⟨wa, hwa⟩ : ∃ W : World, W = wr.alloc (.cells (rC y) 45) := ⟨_, rfl⟩
     rw [← hwa] at hba hxa
     have HSEL := Lib.hid (hsel wa hba)
     have HXA := Lib.hid hxa
     have HBA := Lib.hid (s_trans HB.out hba)
     have HOA := Lib.hid (own_on HO.out hba)
     have HXEA := Lib.hid (block_on HBA.out HXE.out)
     clear hrow hsn hfld hba hxa hsel
     generalize hS : selB y x.f3 = S at *
     clear hS
     go_upto_region 7 with (first
      | ((with_reducible refine gate_dst (N := 20) rfl ?_); apply RowTake.wpl_row_at (ty := 45) (hu := Tryz.underlying45) (hd := rfl) (cs := rC y); (case hgd => rfl); (case ho => rfl); (case hx => rfl); (case hg => exact HROW.out); (case hi => kernel_rfl))
      | (apply RowTake.wpl_row_new (ty := 45) (cs := rC y); (case hgd => rfl); (case ho => rfl); (case hx => rfl); (case hy => rfl); (case hi => kernel_rfl); (case hold => rfl); (case h1 => rfl)))
     rw [← hwa]
     clear hwa
     obtain ⟨y0, y1, y2, y3, y4⟩ := cells5 HXEA.out
     cases S
     ·have hsn : amounts (rows.take (k + 1)) x = L := by rw [HSN.out, if_neg (by decide), List.append_nil]
      have HSN2 := Lib.hid hsn
      clear hsn HSN HFLD
      go_wp2_with (first
       | ((with_reducible refine gate_dst (N := 23) rfl ?_); apply RowTake.wpl_row (ty := 45) (hu := Tryz.underlying45) (hd := rfl); (case hgd => rfl); (case ho => rfl); (case hx => rfl); (case hg => exact HXA.out); (case hi => kernel_rfl))
       | (go_at_call 13; refine HSEL.out.mono ?_; rintro e w3 ⟨rfl, hb⟩; have HB3 := Lib.hid hb; clear hb))
      go_roundw
      case rel => exact ⟨k + 1, by omega, by go_num, Lib.hid (s_trans HBA.out HB3.out), by rw [HSN2.out]; exact Lib.hid (own_on HOA.out HB3.out)⟩
      case measure => simp [intOf]; omega
     ·have hsn : amounts (rows.take (k + 1)) x = L ++ [fvl] := by rw [HSN.out, if_pos rfl]
      have HSN2 := Lib.hid hsn
      clear hsn HSN
      go_upto_region 9 with (first
       | ((with_reducible refine gate_dst (N := 23) rfl ?_); apply RowTake.wpl_row (ty := 45) (hu := Tryz.underlying45) (hd := rfl); (case hgd => rfl); (case ho => rfl); (case hx => rfl); (case hg => exact HXA.out); (case hi => kernel_rfl))
       | ((with_reducible refine gate_dst (N := 26) rfl ?_); apply RowTake.wpl_row (ty := 45) (hu := Tryz.underlying45) (hd := rfl); (case hgd => rfl); (case ho => rfl); (case hx => rfl); (case hg => exact HXA3.out); (case hi => kernel_rfl))
       | (go_at_call 13; refine HSEL.out.mono ?_; rintro e w3 ⟨rfl, hb⟩; have HB3 := Lib.hid hb; have HXA3 := Lib.hid (block_on hb HXA.out); obtain ⟨x0, x1, x2, x3, x4⟩ := cells5 (block_on hb HXEA.out); clear hb)
       | (go_at_call 101; refine (HFLD.out _).mono ?_; rintro e w4 ⟨rfl, hb⟩; have HB4 := Lib.hid (s_trans HB3.out hb); clear hb))
      obtain ⟨wy, hwy⟩ : ∃ W : World, W = w4.alloc (.cells #[.int .i64 fvl] 3) := ⟨_, rfl⟩
      have hby : Below w4.heap.size w4 wy := by rw [hwy]; exact s_alloc (Below.refl _ _) _
      have hOy := own_on (own_on HOA.out HB4.out) hby
      have hnews := int_news w4 fvl
      rw [← hwy] at hnews
      have hBy := s_trans (s_trans HBA.out HB4.out) hby
      have hbase : w2.heap.size ≤ wy.heap.size := hBy.size
      have HOY := Lib.hid hOy
      have HNW := Lib.hid hnews
      have HBY := Lib.hid hBy
      obtain ⟨ad5, cap5, e5⟩ := own_slice hOy
      cases e5
      clear hby hOy hnews hBy
      go_wp2_with (at_builtin; (try rw [← hwy]); refine wpList_append_own_at _ rfl _ _ 49 rfl w2.heap.size 3 i0 _ 1 8 Tryz.underlying49 hi0 hz0 hzs hzb rfl (by decide) _ _ _ rfl HOY.out ⟨w4.heap.size, 0, none⟩ 1 1 [.int .i64 fvl] rfl rfl HNW.out (by simp [Value.oneCell']) (by unfold maxLen; omega) (by omega) hbase ?_; intro v' w5 hown5 hg5 _ hat5; obtain ⟨ad', cap', rfl⟩ := own_slice hown5; have HO5 := Lib.hid hown5; have HG5 := Lib.hid hg5; clear hown5 hg5 hat5 hwy)
      go_roundw
      case rel => exact ⟨k + 1, by omega, by go_num, Lib.hid (low_grow HBY.out HOY.out HG5.out), by rw [HSN2.out, List.length_append, List.map_append]; exact HO5⟩
      case measure => simp [intOf]; omega
    ·obtain rfl : k = rows.length := by omega
     have hO := HO.out
     rw [List.take_length] at hO
     have hlen := amounts_len rows x
     obtain ⟨L, hL⟩ : ∃ L, L = amounts rows x := ⟨_, rfl⟩
     rw [← hL] at hO hlen
     have HL := Lib.hid hL
     clear hL
     obtain ⟨ad5, cap5, rfl⟩ := own_slice hO
     have HRI := Lib.hid (own_rint hO (by omega))
     clear hO
     go_wp2_with (go_at_call 102; refine (Money.sum_any _ _ _ L _ HRI.out).mono ?_; rintro e w3 ⟨rfl, hb⟩; have HB3 := Lib.hid (s_trans (s_trans HB2.out HB.out) hb); clear hb)
     go_ret2
     exact ⟨by rw [← HL.out]; rfl, s_trans HB0.out HB3.out⟩
end Go.Proofs.YtnaglnifpejpjaaGreatDoor.Ch
