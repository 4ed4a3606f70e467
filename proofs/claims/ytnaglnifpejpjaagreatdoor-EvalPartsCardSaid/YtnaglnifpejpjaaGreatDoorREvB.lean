/- Several texts in one. -/
import Derived.Test.YtnaglnifpejpjaaGreatDoorREvr3
import Derived.Test.YtnaglnifpejpjaaGreatDoorRXEvalRunsx0
import Derived.Test.YtnaglnifpejpjaaGreatDoorRShA
import Derived.Test.YtnaglnifpejpjaaGreatDoorRCkA
import Derived.Test.YtnaglnifpejpjaaGreatDoorRXEvalRunsx15
/-
  eval.One, octroiref34.One; rows that are light.
-/
namespace Go.Proofs.YtnaglnifpejpjaaGreatDoor.Ch
set_option linter.unusedVariables false
set_option linter.unusedSimpArgs false
set_option linter.unnecessarySimpa false
open Go.RowKit Go.Proofs.YtnaglnifpejpjaaGreatDoorK Go.Proofs.YtnaglnifpejpjaaGreatDoor.XEvalRuns Go.Proofs.YtnaglnifpejpjaaGreatDoorW.PrintWords Go.Proofs.YtnaglnifpejpjaaGreatDoorW.PrintLast

theorem eqInf (w : World) (d : Nat) (fn : Fn) (a b : Array Value) : (Op.equalIn (d + 1) 36 (.func fn a b) .nilFunc).run Tryz.prog w = .ok false w := by
 simp [Op.equalIn, run_underlying Tryz.underlying36]
theorem eqf_nil (w : World) (fn : Fn) (a b : Array Value) : (binOp .eql 36 (.func fn a b) .nilFunc).run Tryz.prog w = .ok (.bool false) w := by
 simp only [binOp]
 simp [Op.equal, Op.maxDepth, eqInf w 9999]
theorem good_right {x : S25} (h : goodB x = true) : rightB x = true := by
 unfold goodB at h
 rw [Bool.and_eq_true] at h
 exact h.2
noncomputable def oneE (rows : List S45) (K : Int → Int × Bool) (x : S25) : Int × Int := if goodB x = true then evB rows K x else (0, 2)
set_option maxRecDepth 100000 in
set_option maxHeartbeats 4000000 in
theorem one_any (x : S25) (hs : Small x) (A4 : Option Addr) (c4 : Nat) (A5 : Option Addr) (c5 : Nat) (K : Int → Int × Bool) (fv : Value) (A : Option Addr) (c : Nat) (rows : List S45) (w : World) (hin : EIn w x A4 c4 A5 c5) (hkn : KnownF w fv K) (hr : Kd.C k45 w A rows.length rows) (hc : rows.length ≤ c) (hl : rows.length ≤ 1000000) :
 Calls Tryz.prog 11 #[eV x A4 c4 A5 c5, .slice A rows.length c, fv] w fun e w' => e = .returned (.tuple #[.int .i64 (oneE rows K x).1, .int .i64 (oneE rows K x).2]) ∧ Below w.heap.size w w' := by
 have hx1 : (w.alloc (.cells #[.int .i64 x.f0, .int .i64 x.f1, .string x.f2, .slice A4 x.f3.length c4, .slice A5 x.f4.length c5] 25)).heap[w.heap.size]? = some (.cells #[.int .i64 x.f0, .int .i64 x.f1, .string x.f2, .slice A4 x.f3.length c4, .slice A5 x.f4.length c5] 25 (0, 0)) := heap_alloc_last _ _
 have hb0 : Below w.heap.size w (w.alloc (.cells #[.int .i64 x.f0, .int .i64 x.f1, .string x.f2, .slice A4 x.f3.length c4, .slice A5 x.f4.length c5] 25)) := s_alloc (Below.refl _ _) _
 obtain ⟨W1, hW⟩ : ∃ W : World, W = (w.alloc (.cells #[.int .i64 x.f0, .int .i64 x.f1, .string x.f2, .slice A4 x.f3.length c4, .slice A5 x.f4.length c5] 25)) := ⟨_, rfl⟩
 rw [← hW] at hx1 hb0
 have hgood := goodE_any x hs A4 c4 A5 c5 W1 (hin.below hb0)
 have hval := fun (hg : goodB x = true) (W : World) (hb : Below W1.heap.size W1 W) => value_any rows hl K x hs (good_right hg) A4 c4 A5 c5 fv A c W (hin.below (s_trans hb0 hb)) (hkn.below (s_trans hb0 hb)) (Kd.C_below hr (s_trans hb0 hb)) hc
 have HX1 := Lib.hid hx1
 have HB0 := Lib.hid hb0
 obtain ⟨y0, y1, y2, y3, y4⟩ := cells5 hx1
 clear hin hr hx1 hb0
 unfold oneE
 obtain ⟨g, hg⟩ : ∃ g, goodB x = g := ⟨_, rfl⟩
 rw [hg] at hgood hval ⊢
 have HG := Lib.hid hgood
 have HV := Lib.hid hval
 clear hgood hval hg
 cases g
 all_goals
  rcases hkn with ⟨rfl, k⟩ | ⟨p, rfl, k⟩ | ⟨p, q, r, rfl, k⟩
  all_goals
   clear k
   first
    | have HV2 := Lib.hid (HV.out rfl)
    | skip
   clear HV
   have qF := eqf_nil
   go_enter Tryz.func11, Tryz.ntmps11
   go_upto_region 1 with fail
   rw [← hW]
   clear hW
   go_wp2_with (first
    | (go_at_call 26; refine HG.out.mono ?_; rintro e w2 ⟨rfl, hb⟩; have HB2 := Lib.hid hb; obtain ⟨z0, z1, z2, z3, z4⟩ := cells5 (block_on hb HX1.out); clear hb)
    | (go_at_call 27; refine (HV2.out _ HB2.out).mono ?_; rintro e w3 ⟨rfl, hb⟩; have HB3 := Lib.hid (s_trans HB2.out hb); clear hb))
   go_ret2
   exact ⟨rfl, by first | exact s_trans HB0.out HB3.out | exact s_trans HB0.out HB2.out⟩
/-- May a row be looked at here? -/
def lightB (r : S45) : Bool := decide ((r.f2.size : Int) + r.f7.size + r.f8.size ≤ 300)
/-- No string of a row is longer than all memory. -/
def ThinRow (r : S45) : Prop := r.f2.size ≤ 140737488351232 ∧ r.f7.size ≤ 140737488351232 ∧ r.f8.size ≤ 140737488351232
theorem light1_any (r : S45) (ht : ThinRow r) (w : World) : Calls Tryz.prog 23 #[rV r] w fun e w' => e = .returned (.bool (lightB r)) ∧ Below w.heap.size w w' := by
 obtain ⟨h1, h2, h3⟩ := ht
 have e1 : wrap64 ((r.f2.size : Int) + r.f7.size) = (r.f2.size : Int) + r.f7.size := by unfold wrap64; omega
 have e2 : wrap64 ((r.f2.size : Int) + r.f7.size + r.f8.size) = (r.f2.size : Int) + r.f7.size + r.f8.size := by unfold wrap64; omega
 refine (octroilaw24_Light.calls _ _ _ _ _ _ _ _ _ _ _ _ _ _ _ _ _ (lightB r) w ?_).mono fun _ _ h => h
 unfold octroilaw24_Light.f lightB
 first
  | rw [e1, e2]
  | simp [e1, e2]
def lightL (rows : List S45) : Bool := rows.all lightB && decide (rows.length ≤ 60)
set_option maxRecDepth 100000 in
set_option maxHeartbeats 4000000 in
theorem light_any (A : Option Addr) (c : Nat) (rows : List S45) (w : World) (hr : Kd.C k45 w A rows.length rows) (hc : rows.length ≤ c) (hl : rows.length ≤ 140737488351232) (ht : ∀ r ∈ rows, ThinRow r) :
 Calls Tryz.prog 8 #[.slice A rows.length c] w fun e w' => e = .returned (.bool (lightL rows)) ∧ Below w.heap.size w w' := by
 have HR := Lib.hid hr
 have HT := Lib.hid ht
 have hlen : decide ((rows.length : Int) ≤ 60) = decide (rows.length ≤ 60) := by rw [decide_eq_decide]; omega
 have HLN := Lib.hid hlen
 clear hr ht hlen
 unfold lightL
 go_enter Tryz.func8, Tryz.ntmps8
 go_wp2
 go_loopw [7] (fun i wr => ∃ k : Nat, k ≤ rows.length ∧ i = .int .i64 k ∧ Hid ((rows.take k).all lightB = true) ∧ Hid (Below w.heap.size w wr)) (fun i _ => rows.length - (intOf i).toNat)
 case atStart => exact ⟨0, Nat.zero_le _, rfl, by rw [List.take_zero]; exact Lib.hid rfl, Lib.hid (Below.refl _ _)⟩
 case round =>
  obtain ⟨k, hk, rfl, HA, HB⟩ := hrel
  by_cases hlt : k < rows.length
  ·obtain ⟨ad0, e0, hrow⟩ := row_at (Kd.C_below HR.out HB.out) k hlt
   have htk : (rows.take (k + 1)).all lightB = lightB rows[k] := by
    rw [List.take_succ_eq_append_getElem hlt, List.all_append, HA.out, Bool.true_and, List.all_cons, List.all_nil, Bool.and_true]
   have hno : lightB rows[k] = false → rows.all lightB = false := fun e => by
    cases h : rows.all lightB with
    | false => rfl
    | true => rw [List.all_eq_true.1 h _ (List.getElem_mem hlt)] at e; cases e
   have hty := HT.out _ (List.getElem_mem hlt)
   cases e0
   generalize rows[k] = y at *
   have hlg := fun W => light1_any y hty W
   have HROW := Lib.hid hrow
   have HTK := Lib.hid htk
   have HNO := Lib.hid hno
   have hba : Below wr.heap.size wr (wr.alloc (.cells (rC y) 45)) := s_alloc (Below.refl _ _) _
   have hxa : (wr.alloc (.cells (rC y) 45)).heap[wr.heap.size]? = some (.cells (rC y) 45 (0, 0)) := heap_alloc_last _ _
   obtain ⟨wa, hwa⟩ : ∃ W : World, W = wr.alloc (.cells (rC y) 45) := ⟨_, rfl⟩
   rw [← hwa] at hba hxa
   have HXA := Lib.hid hxa
   have HBA := Lib.hid (s_trans HB.out hba)
   clear hrow htk hno hba hxa hty
   generalize lightB y = S at *
   have HLG := Lib.hid hlg
   clear hlg
   go_upto_region 4 with (first
    | ((with_reducible refine gate_dst (N := 10) rfl ?_); apply RowTake.wpl_row_at (ty := 45) (hu := Tryz.underlying45) (hd := rfl) (cs := rC y); (case hgd => rfl); (case ho => rfl); (case hx => rfl); (case hg => exact HROW.out); (case hi => kernel_rfl))
    | (apply RowTake.wpl_row_new (ty := 45) (cs := rC y); (case hgd => rfl); (case ho => rfl); (case hx => rfl); (case hy => rfl); (case hi => kernel_rfl); (case hold => rfl); (case h1 => rfl)))
   rw [← hwa]
   clear hwa
   cases S
   all_goals
    first
     | have HF := Lib.hid (HNO.out rfl)
     | skip
    clear HNO
    go_wp2_with (first
     | ((with_reducible refine gate_dst (N := 11) rfl ?_); apply RowTake.wpl_row (ty := 45) (hu := Tryz.underlying45) (hd := rfl); (case hgd => rfl); (case ho => rfl); (case hx => rfl); (case hg => exact HXA.out); (case hi => kernel_rfl))
     | (go_at_call 23; refine (HLG.out _).mono ?_; rintro e w3 ⟨rfl, hb⟩; have HB3 := Lib.hid (s_trans HBA.out hb); clear hb))
    first
     | (go_ret; exact ⟨by rw [HF.out]; rfl, HB3.out⟩)
     | (go_roundw
        case rel => exact ⟨k + 1, by omega, by go_num, Lib.hid HTK.out, HB3⟩
        case measure => simp [intOf]; omega)
  ·obtain rfl : k = rows.length := by omega
   have hall := HA.out
   rw [List.take_length] at hall
   have HAL := Lib.hid hall
   clear hall
   go_wp2
   go_ret
   exact ⟨by rw [HAL.out, Bool.true_and, ← HLN.out]; rfl, HB.out⟩
end Go.Proofs.YtnaglnifpejpjaaGreatDoor.Ch

/-
  The kind of eval.Value (as the print writes kinds).
-/
namespace Go.Proofs.YtnaglnifpejpjaaGreatDoor.XEvalRuns
set_option linter.unnecessarySimpa false
open Go.RowKit Go.Proofs.YtnaglnifpejpjaaGreatDoorW.PrintWords Go.Proofs.YtnaglnifpejpjaaGreatDoorW.PrintLast
set_option linter.unusedVariables false
set_option linter.unusedSimpArgs false
structure S33 where
 f0 : Int
 f1 : Int
def z33 : S33 := ⟨(0 : Int), (0 : Int)⟩
def k33 : Kd S33 := Kd.iso (Kd.pair (Kd.int .i64) (Kd.int .i64)) (fun x : S33 => (x.f0, x.f1))
theorem k33_open {w : World} {x : S33} {cs : List Value} (h : k33.K w x cs) : cs = [.int .i64 x.f0, .int .i64 x.f1] := by
 obtain ⟨_, _, rfl, rfl, rfl⟩ := h
 exact rfl
theorem k33_mk (w : World) (x : S33) : k33.K w x [.int .i64 x.f0, .int .i64 x.f1] := ⟨[.int .i64 x.f0], [.int .i64 x.f1], rfl, rfl, rfl⟩
def rd_T33 (xs : List S33) (i : Int) : S33 := xs.getD i.toNat z33
theorem at_T33 {w : World} {A : Option Addr} {n : Nat} {xs : List S33} (h : Kd.C k33 w A n xs) (i : Int) (h0 : 0 ≤ i) (h1 : i < n) : ∃ ad , A = some ad ∧ w.cell? (ad.add (i.toNat * 2)) = some (.int .i64 (rd_T33 xs i).f0) ∧ w.cell? ⟨(ad.add (i.toNat * 2)).block, (ad.add (i.toNat * 2)).off + 1, none⟩ = some (.int .i64 (rd_T33 xs i).f1) := by
 obtain ⟨ad, c, e, _, hK, hc0⟩ := Kd.C_get h z33 i h0 h1
 have hc : ∀ j u, c[j]? = some u → w.cell? (ad.add (i.toNat * 2 + j)) = some u := hc0
 obtain rfl := k33_open hK
 exact ⟨ad, e, hc 0 _ rfl, by rw [← add_field _ _ 1 (by omega)]; exact hc 1 _ rfl⟩
end Go.Proofs.YtnaglnifpejpjaaGreatDoor.XEvalRuns

/-
  eval.Lines.
-/
namespace Go.Proofs.YtnaglnifpejpjaaGreatDoor.Ch
set_option linter.unusedVariables false
set_option linter.unusedSimpArgs false
set_option linter.unnecessarySimpa false
open Go.RowKit Go.Proofs.YtnaglnifpejpjaaGreatDoorK Go.Proofs.YtnaglnifpejpjaaGreatDoor.XEvalRuns Go.Proofs.YtnaglnifpejpjaaGreatDoorW.PrintWords Go.Proofs.YtnaglnifpejpjaaGreatDoorW.PrintLast Go.Proofs.YtnaglnifpejpjaaGreatDoor.BX

def lineL (v : S33) : List UInt8 := Lib.itoa v.f0 ++ [32] ++ Lib.itoa v.f1 ++ [10]
def linesL : List S33 → List UInt8
 | [] => []
 | v :: l => lineL v ++ linesL l
theorem linesL_append : ∀ (a b : List S33), linesL (a ++ b) = linesL a ++ linesL b
 | [], b => rfl
 | v :: a, b => by rw [List.cons_append, linesL, linesL_append a b, linesL, List.append_assoc]
def In64 (v : S33) : Prop := (-9223372036854775808 ≤ v.f0 ∧ v.f0 ≤ 9223372036854775807) ∧ (-9223372036854775808 ≤ v.f1 ∧ v.f1 ≤ 9223372036854775807)
theorem lineL_len (v : S33) (h : In64 v) : (lineL v).length ≤ 46 := by
 have h1 := Lib.itoa_length_le v.f0 h.1.1 h.1.2
 have h2 := Lib.itoa_length_le v.f1 h.2.1 h.2.2
 unfold lineL
 simp only [List.length_append, List.length_cons, List.length_nil]
 omega
theorem linesL_len : ∀ (l : List S33), (∀ v ∈ l, In64 v) → (linesL l).length ≤ 46 * l.length
 | [], _ => by simp [linesL]
 | v :: l, h => by
   have h1 := lineL_len v (h v List.mem_cons_self)
   have h2 := linesL_len l (fun x hx => h x (List.mem_cons_of_mem _ hx))
   rw [linesL, List.length_append, List.length_cons]
   omega
theorem rdEV (L : List S33) (i : Nat) (h : i < L.length) : rd_T33 L (i : Int) = L[i] := by unfold rd_T33; rw [Int.toNat_natCast, List.getD_eq_getElem?_getD, List.getElem?_eq_getElem h]; rfl
set_option maxRecDepth 100000 in
set_option maxHeartbeats 4000000 in
theorem lines_any (A : Option Addr) (c : Nat) (l : List S33) (w : World) (hr : Kd.C k33 w A l.length l) (hc : l.length ≤ c) (hl : l.length ≤ 1000000) (h64 : ∀ v ∈ l, In64 v) (ht : Tab w) :
 Calls Tryz.prog 21 #[.slice A l.length c] w fun e w' => e = .returned (.string ⟨(linesL l).toArray⟩) ∧ Below w.heap.size w w' := by
 have HR := Lib.hid hr
 have H64 := Lib.hid h64
 have HT := Lib.hid (fun W (hb : Below w.heap.size w W) => ht.below hb)
 have hbl := Lib.fresh_isBuilder 100 5 w
 have hX : Txt w.heap.size w.heap.size [] w (w.alloc (.cells #[.pointer none, .slice none 0 0] 100)) := ⟨hbl, (Below.refl _ _).alloc (Nat.le_refl _) _, (Lib.OthersKept.refl _ _ _).alloc _⟩
 have hBle : w.heap.size ≤ (w.alloc (.cells #[.pointer none, .slice none 0 0] 100)).heap.size := by simp
 obtain ⟨W1, hW⟩ : ∃ W : World, W = w.alloc (.cells #[.pointer none, .slice none 0 0] 100) := ⟨_, rfl⟩
 rw [← hW] at hX hBle
 have HX := Lib.hid hX
 have HLE := Lib.hid hBle
 clear hr h64 hbl hX hBle ht
 go_enter Tryz.func21, Tryz.ntmps21
 go_upto_region 2 with fail
 rw [← hW]
 clear hW
 go_wp2
 go_loopw [8] (fun i wr => ∃ k : Nat, k ≤ l.length ∧ i = .int .i64 k ∧ Hid (Txt w.heap.size w.heap.size (linesL (l.take k)) w wr) ∧ Hid (w.heap.size ≤ wr.heap.size)) (fun i _ => l.length - (intOf i).toNat)
 case atStart => exact ⟨0, Nat.zero_le _, rfl, by rw [List.take_zero]; exact HX, HLE⟩
 case round =>
  obtain ⟨k, hk, rfl, HX, HLE⟩ := hrel
  by_cases hlt : k < l.length
  ·obtain ⟨ad0, e0, q0, q1⟩ := at_T33 (Kd.C_below HR.out HX.out.below) (k : Int) (by omega) (by omega)
   have hy := rdEV l k hlt
   have h6 := H64.out _ (List.getElem_mem hlt)
   have htk : linesL (l.take (k + 1)) = linesL (l.take k) ++ Lib.itoa l[k].f0 ++ [32] ++ Lib.itoa l[k].f1 ++ [10] := by
    rw [List.take_succ_eq_append_getElem hlt, linesL_append, linesL, linesL, List.append_nil, lineL]
    simp only [List.append_assoc]
   have hlen := linesL_len (l.take k) (fun v hv => H64.out v (List.mem_of_mem_take hv))
   rw [List.length_take] at hlen
   rw [hy] at q0 q1
   rw [Int.toNat_natCast] at q0 q1
   cases e0
   generalize l[k] = y at *
   generalize linesL (l.take k) = L at *
   have i1 := Lib.itoa_length_le y.f0 h6.1.1 h6.1.2
   have i2 := Lib.itoa_length_le y.f1 h6.2.1 h6.2.2
   have hL1 : L.length + (⟨(Lib.itoa y.f0).toArray⟩ : ByteArray).size ≤ 140737488355328 := by show L.length + (Lib.itoa y.f0).toArray.size ≤ _; rw [List.size_toArray]; omega
   have hL2 : (L ++ Lib.itoa y.f0).length + 1 ≤ 140737488355328 := by rw [List.length_append]; omega
   have hL3 : (L ++ Lib.itoa y.f0 ++ [32]).length + (⟨(Lib.itoa y.f1).toArray⟩ : ByteArray).size ≤ 140737488355328 := by show (L ++ Lib.itoa y.f0 ++ [32]).length + (Lib.itoa y.f1).toArray.size ≤ _; rw [List.size_toArray, List.length_append, List.length_append, List.length_singleton]; omega
   have hL4 : (L ++ Lib.itoa y.f0 ++ [32] ++ Lib.itoa y.f1).length + 1 ≤ 140737488355328 := by rw [List.length_append, List.length_append, List.length_append, List.length_singleton]; omega
   have HTK := Lib.hid htk
   have HL1 := Lib.hid hL1
   have HL2 := Lib.hid hL2
   have HL3 := Lib.hid hL3
   have HL4 := Lib.hid hL4
   have H6 := Lib.hid h6
   clear hy h6 htk hlen i1 i2 hL1 hL2 hL3 hL4
   have hba : Below wr.heap.size wr (wr.alloc (.cells #[.int .i64 y.f0, .int .i64 y.f1] 33)) := s_alloc (Below.refl _ _) _
   have hxa : (wr.alloc (.cells #[.int .i64 y.f0, .int .i64 y.f1] 33)).heap[wr.heap.size]? = some (.cells #[.int .i64 y.f0, .int .i64 y.f1] 33 (0, 0)) := heap_alloc_last _ _
   obtain ⟨wa, hwa⟩ : ∃ W : World, W = wr.alloc (.cells #[.int .i64 y.f0, .int .i64 y.f1] 33) := ⟨_, rfl⟩
   rw [← hwa] at hba hxa
   have hxx := HX.out.made hba HLE.out
   have hle := Nat.le_trans HLE.out hba.size
   have HXA := Lib.hid hxx
   have HLA := Lib.hid hle
   have HCA := Lib.hid hxa
   have hbe : w.heap.size ≠ wr.heap.size := by have := IsBuilder_lt HX.out.is; omega
   have HNE := Lib.hid hbe
   clear hba hxx hle hbe
   go_upto_region 5 with fail
   rw [← hwa]
   clear hwa q0 q1
   obtain ⟨x0, x1⟩ := cells2 hxa
   clear hxa
   have hxb : Txt w.heap.size w.heap.size L wa wa := ⟨HXA.out.is, Below.refl _ _, Lib.OthersKept.refl _ _ _⟩
   have HXB := Lib.hid hxb
   clear hxb
   go_upto_region 6 with (first
    | (go_at_call 51; refine (itoa_any y.f0 _ H6.out.1.1 H6.out.1.2 (HT.out _ HXA.out.below)).mono ?_; rintro e w2 ⟨rfl, hb⟩; have HX2 := Lib.hid (HXB.out.made hb HLA.out); have HLE2 := Lib.hid (Nat.le_trans HLA.out hb.size); clear hb)
    | (go_at_call 50; refine (writeString_txt _ _ L _ wa _ HX2.out HL1.out HLE2.out).mono ?_; rintro e w3 ⟨rfl, h3, hb3⟩; have HX3 := Lib.hid h3; have HLE3 := Lib.hid (Nat.le_trans HLE2.out hb3.size); clear h3 hb3))
   clear x0 x1
   go_upto_region 7 with (go_at_call 52; refine (writeByte_txt _ _ (L ++ Lib.itoa y.f0) 32 wa _ HX3.out HL2.out HLE3.out).mono ?_; rintro e w4 ⟨rfl, h4, hb4⟩; have HX4 := Lib.hid h4; have HLE4 := Lib.hid (Nat.le_trans HLE3.out hb4.size); clear h4 hb4)
   have hc4 : w4.heap[wr.heap.size]? = some (.cells #[.int .i64 y.f0, .int .i64 y.f1] 33 (0, 0)) := HX4.out.others _ _ HCA.out (fun e => HNE.out (Option.some.inj e).symm) (fun c fz e => by cases e)
   obtain ⟨x0, x1⟩ := cells2 hc4
   clear hc4
   go_upto_region 8 with (first
    | (go_at_call 51; refine (itoa_any y.f1 _ H6.out.2.1 H6.out.2.2 (HT.out _ (HXA.out.below.trans HX4.out.below))).mono ?_; rintro e w5 ⟨rfl, hb⟩; have HX5 := Lib.hid (HX4.out.made hb HLE4.out); have HLE5 := Lib.hid (Nat.le_trans HLE4.out hb.size); clear hb)
    | (go_at_call 50; refine (writeString_txt _ _ (L ++ Lib.itoa y.f0 ++ [32]) _ wa _ HX5.out HL3.out HLE5.out).mono ?_; rintro e w6 ⟨rfl, h3, hb3⟩; have HX6 := Lib.hid h3; have HLE6 := Lib.hid (Nat.le_trans HLE5.out hb3.size); clear h3 hb3))
   clear x0 x1
   go_wp2_with (go_at_call 52; refine (writeByte_txt _ _ (L ++ Lib.itoa y.f0 ++ [32] ++ Lib.itoa y.f1) 10 wa _ HX6.out HL4.out HLE6.out).mono ?_; rintro e w7 ⟨rfl, h4, hb4⟩; have HX7 := Lib.hid h4; have HLE7 := Lib.hid (Nat.le_trans HLE6.out hb4.size); clear h4 hb4)
   go_roundw
   case rel => exact ⟨k + 1, by omega, by go_num, by rw [HTK.out]; exact Lib.hid ⟨HX7.out.is, HXA.out.below.trans HX7.out.below, HXA.out.others.trans HX7.out.others⟩, HLE7⟩
   case measure => simp [intOf]; omega
  ·obtain rfl : k = l.length := by omega
   have hx := HX.out
   rw [List.take_length] at hx
   have HX9 := Lib.hid hx
   clear hx
   go_wp2_with (go_at_call 53; refine (string_any w.heap.size w.heap.size (linesL l) _ HX9.out.is HLE.out).mono ?_; rintro e w8 ⟨rfl, hb8⟩; have HB8 := Lib.hid (HX9.out.below.trans hb8); clear hb8)
   go_ret
   exact ⟨rfl, HB8.out⟩
end Go.Proofs.YtnaglnifpejpjaaGreatDoor.Ch

/-
  The chapter's examples (lives).
-/
namespace Go.Proofs.YtnaglnifpejpjaaGreatDoor.Ch
set_option linter.unusedVariables false
set_option linter.unusedSimpArgs false
set_option linter.unnecessarySimpa false
open Go.RowKit Go.Proofs.YtnaglnifpejpjaaGreatDoorK Go.Proofs.YtnaglnifpejpjaaGreatDoor.XEvalRuns Go.Proofs.YtnaglnifpejpjaaGreatDoorW.PrintWords Go.Proofs.YtnaglnifpejpjaaGreatDoorW.PrintLast Go.Proofs.YtnaglnifpejpjaaGreatDoor.BX

def soldR : S45 := ⟨⟨0, 0, 0⟩, ⟨0, 0, 0⟩, ⟨#[97]⟩, true, 1, 1, 1900, ⟨#[68, 69]⟩, ⟨#[]⟩, 1000, 190, 0, false⟩
theorem sold_any (w : World) : Calls Tryz.prog 25 #[] w fun e w' => e = .returned (.agg #[.int .i64 0, .int .i64 0, .int .i64 0, .int .i64 0, .int .i64 0, .int .i64 0, .string ⟨#[97]⟩, .bool true, .int .i64 1, .int .i64 1, .int .i64 1900, .string ⟨#[68, 69]⟩, .string ⟨#[]⟩, .int .i64 1000, .int .i64 190, .int .i64 0, .bool false]) ∧ Below w.heap.size w w' :=
 octroilaw24_Sold.calls _ _ _ _ _ _ _ _ _ _ _ _ _ _ _ _ _ w rfl
def sBase : ByteArray := ⟨#[98, 97, 115, 101]⟩
def sRate : ByteArray := ⟨#[114, 97, 116, 101]⟩
def exF : S70 := ⟨sRate, 61, 1900⟩
def exE1 : S25 := ⟨3, 0, sBase, [exF], []⟩
def exN (n : Int) : S25 := ⟨1, n, ⟨#[]⟩, [], []⟩
def exE2 : S25 := ⟨9, 0, ⟨#[]⟩, [], [exN 5, exN 1, exN 3]⟩
def K0 : Int → Int × Bool := fun _ => (0, false)
theorem known0 (w : World) : KnownF w (.func (.func 15) #[] #[]) K0 :=
 Or.inl ⟨rfl, fun n W _ => (octroilaw34_nothing.calls n 0 false W rfl).mono fun _ _ ⟨h1, h2⟩ => ⟨h1, h2.below⟩⟩
theorem name_lit (s : ByteArray) (h1 : (lettersB s s.size 0 && tailN s) = true) : nameB s = true := by rw [nameB_eq]; exact h1
theorem tl_base : sBase.toList = [98, 97, 115, 101] := by kernel_rfl
theorem tl_rate : sRate.toList = [114, 97, 116, 101] := by kernel_rfl
theorem name_base : nameB sBase = true := name_lit _ (by
 have h1 : lettersB sBase sBase.size 0 = true := by decide
 have h2 : tailN sBase = true := by
  unfold tailN keyB lexer_Keyword.f
  rw [tl_base]
  decide
 rw [h1, h2]; rfl)
theorem name_rate : nameB sRate = true := name_lit _ (by
 have h1 : lettersB sRate sRate.size 0 = true := by decide
 have h2 : tailN sRate = true := by
  unfold tailN keyB lexer_Keyword.f
  rw [tl_rate]
  decide
 rw [h1, h2]; rfl)
theorem right_num (n : Int) (h : numB n = true) : rightB (exN n) = true := by
 rw [right_eq]
 simp [exN, kidsB, h]
 rfl
theorem good_1 : goodB exE1 = true := by
 have hr : rightB exE1 = true := by
  rw [right_eq]
  simp [exE1, kidsB, name_base, exF, picksB, name_rate, numB]
 have hd : depthB exE1 64 = 1 := by unfold exE1; rw [depthB, depthL]
 unfold goodB
 rw [hr, hd]
 rfl
theorem good_2 : goodB exE2 = true := by
 have h5 := right_num 5 (by decide)
 have h1 := right_num 1 (by decide)
 have h3 := right_num 3 (by decide)
 have hr : rightB exE2 = true := by
  rw [right_eq]
  simp [exE2, kidsB, rightL, h5, h1, h3]
  rfl
 have hd : depthB exE2 64 = 2 := by unfold exE2 exN; simp [depthB, depthL, mx]
 unfold goodB
 rw [hr, hd]
 rfl
theorem one_1 : oneE [soldR] K0 exE1 = (1000, 0) := by
 have hn : namesB exE1 = true := by
  unfold exE1
  rw [namesB]
  decide
 have ht : tagV soldR sRate = (1900, true) := by
  unfold tagV tagF entry_Tag.f
  rw [tl_rate]
  decide
 have hf : fieldV soldR sBase = (1000, true) := by
  unfold fieldV fieldF entry_Field.f
  rw [tl_base]
  decide
 have hs : selB soldR [exF] = true := by
  unfold selB hitB exF
  rw [List.all_cons, List.all_nil, ht]
  decide
 have ha : amounts [soldR] exE1 = [1000] := by
  unfold amounts exE1
  simp [hs, hf]
 unfold oneE
 rw [if_pos good_1, evB_eq, if_neg (by decide), if_neg (by decide), if_pos (by rfl)]
 unfold totE
 rw [if_pos hn, ha]
 decide
theorem one_2 : oneE [] K0 exE2 = (3, 0) := by
 unfold oneE
 rw [if_pos good_2, evB_eq, if_neg (by decide), if_neg (by decide), if_neg (by decide)]
 have hl : evL [] K0 exE2.f4 = ([5, 1, 3], 0) := by
  simp [exE2, exN, evL, evB]
 rw [hl]
 decide
theorem lines_1 : linesL [⟨3, -7⟩] = [51, 32, 45, 55, 10] := by kernel_rfl
end Go.Proofs.YtnaglnifpejpjaaGreatDoor.Ch

/-
  The chapter's examples, walked.
-/
namespace Go.Proofs.YtnaglnifpejpjaaGreatDoor.Ch
set_option linter.unusedVariables false
set_option linter.unusedSimpArgs false
set_option linter.unnecessarySimpa false
open Go.RowKit Go.Proofs.YtnaglnifpejpjaaGreatDoorK Go.Proofs.YtnaglnifpejpjaaGreatDoor.XEvalRuns Go.Proofs.YtnaglnifpejpjaaGreatDoorW.PrintWords Go.Proofs.YtnaglnifpejpjaaGreatDoorW.PrintLast Go.Proofs.YtnaglnifpejpjaaGreatDoor.BX

theorem flat_at {α : Type} (f : α → List Value) (sz : Nat) : ∀ (xs : List α), (∀ x ∈ xs, (f x).length = sz) → ∀ (j i : Nat) (hj : j < xs.length), i < sz → (xs.flatMap f)[j * sz + i]? = (f xs[j])[i]?
 | [], _, j, i, hj, _ => by simp at hj
 | x :: xs, h, j, i, hj, hi => by
   have hx := h x List.mem_cons_self
   rw [List.flatMap_cons]
   cases j with
   | zero =>
     rw [List.getElem?_append_left (by rw [hx]; omega)]
     simp
   | succ j =>
     rw [List.getElem?_append_right (by rw [hx, Nat.succ_mul]; omega)]
     have ih := flat_at f sz xs (fun y hy => h y (List.mem_cons_of_mem _ hy)) j i (by simpa using hj) hi
     rw [hx, show (j + 1) * sz + i - sz = j * sz + i by rw [Nat.succ_mul]; omega, ih]
     rfl
theorem kd_list {α : Type} {d : Kd α} {W : World} {g : Nat} {t : TypeId} (xs : List α) (f : α → List Value) (hf : ∀ x ∈ xs, d.K W x (f x) ∧ (f x).length = d.sz) (C : Array Value) (hC : C.toList = xs.flatMap f) (h : W.heap[g]? = some (.cells C t (0, 0))) (hl : xs.length ≤ 1000) : Kd.C d W (some ⟨g, 0, none⟩) xs.length xs := by
 refine ⟨rfl, by omega, fun _ => ⟨_, rfl, fun j p hp => ?_⟩⟩
 obtain ⟨hjl, rfl⟩ := List.getElem?_eq_some_iff.1 hp
 obtain ⟨hK, hs⟩ := hf _ (List.getElem_mem hjl)
 refine ⟨f xs[j], hs, hK, fun i u hu => ?_⟩
 have hi : i < d.sz := by rw [← hs]; exact (List.getElem?_eq_some_iff.1 hu).1
 rw [Addr.add_mid, Nat.zero_add, blk_cell h]
 have := flat_at f d.sz xs (fun x hx => (hf x hx).2) j i hjl hi
 rw [← hC, hu] at this
 simpa using this
theorem kd_nil {α : Type} {d : Kd α} (W : World) : Kd.C d W none 0 [] := ⟨rfl, Nat.zero_le _, fun h => absurd h (Nat.lt_irrefl 0)⟩
theorem small_1 : Small exE1 := by unfold exE1; rw [Small, SmallL]; exact ⟨by decide, by decide, trivial⟩
theorem small_N (n : Int) : Small (exN n) := by unfold exN; rw [Small, SmallL]; exact ⟨by decide, by decide, trivial⟩
theorem small_2 : Small exE2 := by
 unfold exE2
 rw [Small, SmallL, SmallL, SmallL, SmallL]
 exact ⟨by decide, by decide, small_N 5, small_N 1, small_N 3, trivial⟩
theorem life_1 (W : World) (g h : Nat) (hF : W.heap[g]? = some (.cells #[.string sRate, .int .u8 61, .int .i64 1900] 70 (0, 0))) (hR : W.heap[h]? = some (.cells (rC soldR) 45 (0, 0))) :
 Calls Tryz.prog 11 #[.agg #[.int .i64 3, .int .i64 0, .string sBase, .slice (some ⟨g, 0, none⟩) 1 1, .slice none 0 0], .slice (some ⟨h, 0, none⟩) 1 1, .func (.func 15) #[] #[]] W fun e w' => e = .returned (.tuple #[.int .i64 1000, .int .i64 0]) ∧ Below W.heap.size W w' := by
 have hin : EIn W exE1 (some ⟨g, 0, none⟩) 1 none 0 := by
  refine ⟨Nat.le_refl _, kd_list [exF] (fun x => [.string x.f0, .int .u8 x.f1, .int .i64 x.f2]) (fun x hx => ⟨k70_mk W x, rfl⟩) _ rfl hF (by decide), Nat.le_refl _, kd_nil W⟩
 have hr : Kd.C k45 W (some ⟨h, 0, none⟩) 1 [soldR] := kd_list [soldR] (fun x => (rC x).toList) (fun x hx => ⟨k45_mk W x, rfl⟩) (rC soldR) rfl hR (by decide)
 have := one_any exE1 small_1 (some ⟨g, 0, none⟩) 1 none 0 K0 _ (some ⟨h, 0, none⟩) 1 [soldR] W hin (known0 W) hr (Nat.le_refl _) (by decide)
 rw [one_1] at this
 exact this
theorem life_2 (W : World) (g : Nat) (hK : W.heap[g]? = some (.cells #[.int .i64 1, .int .i64 5, .string ⟨#[]⟩, .slice none 0 0, .slice none 0 0, .int .i64 1, .int .i64 1, .string ⟨#[]⟩, .slice none 0 0, .slice none 0 0, .int .i64 1, .int .i64 3, .string ⟨#[]⟩, .slice none 0 0, .slice none 0 0] 25 (0, 0))) :
 Calls Tryz.prog 11 #[.agg #[.int .i64 9, .int .i64 0, .string ⟨#[]⟩, .slice none 0 0, .slice (some ⟨g, 0, none⟩) 3 3], .slice none 0 0, .func (.func 15) #[] #[]] W fun e w' => e = .returned (.tuple #[.int .i64 3, .int .i64 0]) ∧ Below W.heap.size W w' := by
 have hin : EIn W exE2 none 0 (some ⟨g, 0, none⟩) 3 := by
  refine ⟨Nat.le_refl _, kd_nil W, Nat.le_refl _, kd_list [exN 5, exN 1, exN 3] (fun x => [.int .i64 x.f0, .int .i64 x.f1, .string x.f2, .slice none 0 0, .slice none 0 0]) (fun x hx => ⟨?_, rfl⟩) _ rfl hK (by decide)⟩
  simp only [List.mem_cons, List.not_mem_nil, or_false] at hx
  rcases hx with rfl | rfl | rfl
  all_goals exact k25_mk W (exN _) (A3 := none) (c3 := 0) (Nat.le_refl _) (kd_nil W) (A4 := none) (c4 := 0) (Nat.le_refl _) (kd_nil W)
 have hr : Kd.C k45 W none 0 [] := kd_nil W
 have := one_any exE2 small_2 none 0 (some ⟨g, 0, none⟩) 3 K0 _ none 0 [] W hin (known0 W) hr (Nat.le_refl _) (by decide)
 rw [one_2] at this
 exact this
theorem life_3 (W : World) (g : Nat) (ht : Tab W) (hV : W.heap[g]? = some (.cells #[.int .i64 3, .int .i64 (-7)] 33 (0, 0))) :
 Calls Tryz.prog 21 #[.slice (some ⟨g, 0, none⟩) 1 1] W fun e w' => e = .returned (.string ⟨#[51, 32, 45, 55, 10]⟩) ∧ Below W.heap.size W w' := by
 have hr : Kd.C k33 W (some ⟨g, 0, none⟩) 1 [⟨3, -7⟩] := kd_list [⟨3, -7⟩] (fun x => [.int .i64 x.f0, .int .i64 x.f1]) (fun x hx => ⟨k33_mk W x, rfl⟩) _ rfl hV (by decide)
 have := lines_any (some ⟨g, 0, none⟩) 1 [⟨3, -7⟩] W hr (Nat.le_refl _) (by decide) (fun v hv => by rw [List.mem_singleton.1 hv]; exact ⟨by decide, by decide⟩) ht
 rw [lines_1] at this
 exact this
set_option maxRecDepth 100000 in
set_option maxHeartbeats 4000000 in
theorem num_any (n : Int) (w : World) : Calls Tryz.prog 24 #[.int .i64 n] w fun e w' => e = .returned (.agg #[.int .i64 1, .int .i64 n, .string ⟨#[]⟩, .slice none 0 0, .slice none 0 0]) ∧ Below w.heap.size w w' := by
 obtain ⟨wa, hwa⟩ : ∃ W : World, W = w.alloc (.cells #[.int .i64 0, .int .i64 0, .string ⟨#[]⟩, .slice none 0 0, .slice none 0 0] 25) := ⟨_, rfl⟩
 have hba : Below w.heap.size w wa := by rw [hwa]; exact s_alloc (Below.refl _ _) _
 have hxa : wa.heap[w.heap.size]? = some (.cells #[.int .i64 0, .int .i64 0, .string ⟨#[]⟩, .slice none 0 0, .slice none 0 0] 25 (0, 0)) := by rw [hwa]; exact Array.getElem?_push_size
 go_enter Tryz.func24, Tryz.ntmps24
 go_upto_region 1 with fail
 rw [← hwa]
 obtain ⟨x0, x1, x2, x3, x4⟩ := cells5 hxa
 have f0 := blockFree hxa 0
 have f1 := blockFree hxa 1
 have f2 := blockFree hxa 2
 have f3 := blockFree hxa 3
 have f4 := blockFree hxa 4
 have HX := Lib.hid hxa
 have HB := Lib.hid hba
 clear hwa hxa hba
 go_wp2
 have hq : (((((wa.setCell ⟨w.heap.size, 0, none⟩ (.int .i64 1)).setCell ⟨w.heap.size, 1, none⟩ (.int .i64 n)).setCell ⟨w.heap.size, 2, none⟩ (.string ⟨#[]⟩)).setCell ⟨w.heap.size, 3, none⟩ (.slice none 0 0)).setCell ⟨w.heap.size, 4, none⟩ (.slice none 0 0)).heap[w.heap.size]? = some (.cells #[.int .i64 1, .int .i64 n, .string ⟨#[]⟩, .slice none 0 0, .slice none 0 0] 25 (0, 0)) := by
  have h0 := Go.Joins.block_setCell (i := 0) HX.out (.int .i64 1)
  have h1 := Go.Joins.block_setCell (i := 1) h0 (.int .i64 n)
  have h2 := Go.Joins.block_setCell (i := 2) h1 (.string ⟨#[]⟩)
  have h3 := Go.Joins.block_setCell (i := 3) h2 (.slice none 0 0)
  have h4 := Go.Joins.block_setCell (i := 4) h3 (.slice none 0 0)
  simpa using h4
 have hz := s_set (s_set (s_set (s_set (s_set HB.out ⟨w.heap.size, 0, none⟩ (.int .i64 1) (Nat.le_refl _)) ⟨w.heap.size, 1, none⟩ (.int .i64 n) (Nat.le_refl _)) ⟨w.heap.size, 2, none⟩ (.string ⟨#[]⟩) (Nat.le_refl _)) ⟨w.heap.size, 3, none⟩ (.slice none 0 0) (Nat.le_refl _)) ⟨w.heap.size, 4, none⟩ (.slice none 0 0) (Nat.le_refl _)
 generalize (((((wa.setCell ⟨w.heap.size, 0, none⟩ (.int .i64 1)).setCell ⟨w.heap.size, 1, none⟩ (.int .i64 n)).setCell ⟨w.heap.size, 2, none⟩ (.string ⟨#[]⟩)).setCell ⟨w.heap.size, 3, none⟩ (.slice none 0 0)).setCell ⟨w.heap.size, 4, none⟩ (.slice none 0 0)) = wz at *
 obtain ⟨y0, y1, y2, y3, y4⟩ := cells5 hq
 refine bodyPost_ret (v := .agg #[.int .i64 1, .int .i64 n, .string ⟨#[]⟩, .slice none 0 0, .slice none 0 0]) (by simp [results, Tryz.results24, go_sem, y0, y1, y2, y3, y4]) rfl ⟨rfl, hz⟩
set_option maxRecDepth 100000 in
set_option maxHeartbeats 8000000 in
theorem lives_any (w : World) (ht : Tab w) : Calls Tryz.prog 9 #[] w fun e w' => e = .returned (.bool true) ∧ Below w.heap.size w w' := by
 have HT := Lib.hid (fun W (hb : Below w.heap.size w W) => ht.below hb)
 clear ht
 go_enter Tryz.func9, Tryz.ntmps9
 go_upto_region 3 with (first
  | (go_at_call 25; refine (sold_any _).mono ?_; rintro e w1 ⟨rfl, hb1⟩; have HF1 := Lib.hid (block_on hb1 (heap_alloc_last w _)); have HB1 := Lib.hid (s_trans (s_alloc (Below.refl _ _) _) hb1); clear hb1)
  | (go_at_call 11; refine (life_1 _ w.heap.size w1.heap.size (block_alloc HF1.out _) (heap_alloc_last w1 _)).mono ?_; rintro e w2 ⟨rfl, hb2⟩; have HB2 := Lib.hid (s_trans (s_alloc HB1.out _) hb2); clear hb2))
 have HBn := HB2
 go_upto_region 4 with (first
  | (go_at_call 24; refine (num_any _ _).mono ?_; rintro e w3 ⟨rfl, hb3⟩; have HBn := Lib.hid (s_trans HBn.out hb3); clear hb3)
  | (go_at_call 11; refine (life_2 _ w3.heap.size (heap_alloc_last w3 _)).mono ?_; rintro e w4 ⟨rfl, hb4⟩; have HB4 := Lib.hid (s_trans (s_alloc HBn.out _) hb4); clear hb4))
 go_wp2_with (go_at_call 21; refine (life_3 _ w4.heap.size (HT.out _ (s_alloc HB4.out _)) (heap_alloc_last w4 _)).mono ?_; rintro e w5 ⟨rfl, hb5⟩; have HB5 := Lib.hid (s_trans (s_alloc HB4.out _) hb5); clear hb5)
 go_ret
 exact ⟨rfl, HB5.out⟩
end Go.Proofs.YtnaglnifpejpjaaGreatDoor.Ch
