/- Several texts in one. -/
import Derived.Test.YtnaglnifpejpjaaGreatDoorRows
import Derived.WalkKit
import Derived.WalkSpells
import Derived.WalkLawsBesides
import Derived.Handy
import Derived.Lib.Hide
import Derived.Deep.QuietTactic
import Derived.BigQuiet
import Derived.Laws.Externs
import Derived.Laws.StructEq
import Derived.Laws.Cover2
import Derived.Deep.DeepCutAuto
import Derived.Deep.RegionWith
import Derived.Lib.SmallJoins
/-! Small words of this session's own: 'Below' chained; a region that draws its order and whose callees make memory, walked once. -/
namespace Go.Proofs.YtnaglnifpejpjaaGreatDoorK
set_option linter.unnecessarySimpa false
set_option linter.unusedVariables false
set_option linter.unusedSimpArgs false
open Go.RowKit

theorem s_trans {w w1 w2 : World} (h : Below w.heap.size w w1) (k : Below w1.heap.size w1 w2) : Below w.heap.size w w2 :=
 h.trans ⟨k.os, k.tape, k.output, k.size, fun i hi => k.block i (Nat.lt_of_lt_of_le hi h.size)⟩
theorem s_drew {B : Nat} {w W : World} (h : Below B w W) : Below B w W.drew := ⟨h.os, h.tape, h.output, h.size, h.block⟩

/-- The worlds that are w below its own blocks. -/
structure Sub (w : World) where
 val : World
 property : Below w.heap.size w val
instance sub_nonempty (w : World) : Nonempty (Sub w) := ⟨⟨w, Below.refl _ _⟩⟩
theorem sub_cell {w : World} (u : Sub w) (b o : Nat) (h : b < w.heap.size) : u.val.cell? ⟨b, o, none⟩ = w.cell? ⟨b, o, none⟩ := u.property.cell (p := ⟨b, o, none⟩) h

theorem calls_sub {P : Program} {f : FuncId} {args : Array Value} {w : World} {u : Sub w} {v : Value}
 (h : Calls P f args u.val fun e w' => e = .returned v ∧ Below u.val.heap.size u.val w') : Calls P f args u.val fun e w'' => e = .returned v ∧ ∃ u' : Sub w, w'' = u'.val :=
 h.mono fun _ w' ⟨he, hb⟩ => ⟨he, ⟨w', s_trans u.property hb⟩, rfl⟩

theorem wp_region_sub {P : Program} {id : Nat} {Q : Exit → Act → World → Prop} {a : Act} {w : World} {l : List Oper} (hm : P.follows .mixedOrders = true) (hB : Region.lexB .any l.toArray = true)
 (h : wpQuiet P l.toArray (fun w' => ∃ u : Sub w, w' = u.val) (fun a' => ∀ w', (∃ u : Sub w, w' = u.val) → Q .normal a' w') l a) : (Code.region id l.toArray true).wp P Q a w :=
 wp_region_quiet (C := fun w' => ∃ u : Sub w, w' = u.val) hm hB ⟨⟨_, s_drew (Below.refl w.heap.size w)⟩, rfl⟩ (by simpa using h)

end Go.Proofs.YtnaglnifpejpjaaGreatDoorK

/-! More small words: 'Below' over a new block, a store in a new block. -/
namespace Go.Proofs.YtnaglnifpejpjaaGreatDoorK
set_option linter.unnecessarySimpa false
set_option linter.unusedVariables false
set_option linter.unusedSimpArgs false
open Go.RowKit
theorem s_alloc {w W : World} (h : Below w.heap.size w W) (o : Obj) : Below w.heap.size w (W.alloc o) := h.alloc h.size o
theorem s_drewN {B : Nat} {w W : World} (h : Below B w W) (n : Nat) : Below B w (W.drewN n) := ⟨h.os, h.tape, h.output, h.size, h.block⟩
theorem s_set {w W : World} (h : Below w.heap.size w W) (a : Addr) (v : Value) (hle : w.heap.size ≤ a.block) : Below w.heap.size w (W.setCell a v) := h.setCell hle v
theorem s_cell {W w1 : World} (hb : Below W.heap.size W w1) : (∀ b o, b < W.heap.size → w1.cell? ⟨b, o, none⟩ = W.cell? ⟨b, o, none⟩) ∧ (∀ b o, b < W.heap.size → w1.frozen? ⟨b, o, none⟩ = W.frozen? ⟨b, o, none⟩) :=
 ⟨fun b o h => hb.cell (p := ⟨b, o, none⟩) h, fun b o h => hb.frozen (p := ⟨b, o, none⟩) h⟩
theorem s_lt {w w1 : World} {o : Obj} (h : Below (w.alloc o).heap.size (w.alloc o) w1) : w.heap.size < w1.heap.size := by
 have := h.size
 simp at this
 omega
theorem block_kept {w w1 : World} {C : Array Value} {t : TypeId} (h : Below (w.alloc (.cells C t)).heap.size (w.alloc (.cells C t)) w1) : w1.heap[w.heap.size]? = some (.cells C t (0, 0)) := by
 rw [h.block _ (by simp)]
 exact Array.getElem?_push_size
theorem block_alloc {w : World} {g : Nat} {x : Obj} (h : w.heap[g]? = some x) (o : Obj) : (w.alloc o).heap[g]? = some x := by
 have hg : g < w.heap.size := by rw [Array.getElem?_eq_some_iff] at h; exact h.1
 rw [← h]
 exact Array.getElem?_push_lt hg |>.trans (by rw [Array.getElem?_eq_getElem hg])
theorem block_on {w w1 : World} {g : Nat} {x : Obj} (h : Below w.heap.size w w1) (hg : w.heap[g]? = some x) : w1.heap[g]? = some x := by
 rw [h.block _ (by rw [Array.getElem?_eq_some_iff] at hg; exact hg.1)]
 exact hg
theorem block_lt {w : World} {g : Nat} {x : Obj} (h : w.heap[g]? = some x) : g < w.heap.size := by rw [Array.getElem?_eq_some_iff] at h; exact h.1
theorem set_ne {w : World} {g g' i : Nat} {v : Value} {x : Obj} (h : w.heap[g']? = some x) (hne : g' ≠ g) : (w.setCell ⟨g, i, none⟩ v).heap[g']? = some x := (Below.heap_setCell _ _ _ _ hne).trans h
theorem cells1 {w : World} {g : Nat} {a0 : Value} {t : TypeId} (h : w.heap[g]? = some (.cells #[a0] t (0, 0))) : w.cell? ⟨g, 0, none⟩ = some a0 := by simp [World.cell?, h]
theorem cells2 {w : World} {g : Nat} {a0 a1 : Value} {t : TypeId} (h : w.heap[g]? = some (.cells #[a0, a1] t (0, 0))) : w.cell? ⟨g, 0, none⟩ = some a0 ∧ w.cell? ⟨g, 1, none⟩ = some a1 := by simp [World.cell?, h]
theorem blockFree {w : World} {g : Nat} {C : Array Value} {t : TypeId} (h : w.heap[g]? = some (.cells C t (0, 0))) (i : Nat) : w.frozen? ⟨g, i, none⟩ = false := by simp [World.frozen?, h]
end Go.Proofs.YtnaglnifpejpjaaGreatDoorK

/-! Whole numbers of 128 bits in two halves: plain arithmetic, no Go. -/
namespace Go.Proofs.YtnaglnifpejpjaaGreatDoorK
set_option linter.unnecessarySimpa false
set_option linter.unusedVariables false
set_option linter.unusedSimpArgs false

def loB (s : Int) : Int := s % 18446744073709551616
def hiB (s : Int) : Int := (s / 18446744073709551616) % 18446744073709551616
def sumB (x y c : Int) : Int := (x + y + c) % 18446744073709551616
def carB (x y c : Int) : Int := (x + y + c) / 18446744073709551616
theorem lo_bd (s : Int) : 0 ≤ loB s ∧ loB s < 18446744073709551616 := by unfold loB; omega
theorem hi_bd (s : Int) : 0 ≤ hiB s ∧ hiB s < 18446744073709551616 := by unfold hiB; omega
theorem car_bd (x y c : Int) (hx : 0 ≤ x) (hx' : x < 18446744073709551616) (hy : 0 ≤ y) (hy' : y < 18446744073709551616) (hc : 0 ≤ c) (hc' : c ≤ 1) : 0 ≤ carB x y c ∧ carB x y c ≤ 1 := by unfold carB; omega
theorem plus_lo (x y : Int) : sumB (loB x) (loB y) 0 = loB (x + y) := by unfold sumB loB; omega
theorem plus_hi (x y : Int) : sumB (hiB x) (hiB y) (carB (loB x) (loB y) 0) = hiB (x + y) := by unfold sumB hiB carB loB; omega
theorem of_lo (a : Int) (h1 : -9223372036854775808 ≤ a) (h2 : a ≤ 9223372036854775807) (h : 0 ≤ a) : loB a = a ∧ hiB a = 0 := by unfold loB hiB; omega
theorem of_hi (a : Int) (h1 : -9223372036854775808 ≤ a) (h2 : a ≤ 9223372036854775807) (h : a < 0) : hiB a = 18446744073709551615 := by unfold hiB; omega
/-- What a wide number is as a number of 64 bits with a sign. -/
def narB (s : Int) : Int := (s + 9223372036854775808) % 18446744073709551616 - 9223372036854775808
theorem nar_in (s : Int) (h1 : -9223372036854775808 ≤ s) (h2 : s ≤ 9223372036854775807) : narB s = s := by unfold narB; omega
theorem nar_bd (s : Int) : -9223372036854775808 ≤ narB s ∧ narB s ≤ 9223372036854775807 := by unfold narB; omega
theorem nar_same (s : Int) (h1 : -170141183460469231731687303715884105728 ≤ s) (h2 : s < 170141183460469231731687303715884105728) (hl : loB s = loB (narB s)) (hh : hiB s = hiB (narB s)) : narB s = s := by
 unfold narB loB hiB at *
 omega

def sumL (l : List Int) : Int := l.foldl (· + ·) 0
theorem sumL_nil : sumL [] = 0 := rfl
theorem foldl_add (l : List Int) (a : Int) : l.foldl (· + ·) a = a + l.foldl (· + ·) 0 := by
 induction l generalizing a with
 | nil => simp
 | cons x l ih => simp only [List.foldl_cons]; rw [ih (a + x), ih (0 + x)]; omega
theorem sumL_cons (x : Int) (l : List Int) : sumL (x :: l) = x + sumL l := by
 unfold sumL; simp only [List.foldl_cons]; rw [foldl_add]; omega
theorem sumL_snoc (l : List Int) (x : Int) : sumL (l ++ [x]) = sumL l + x := by
 unfold sumL; rw [List.foldl_append]; rfl
theorem sumL_append (l m : List Int) : sumL (l ++ m) = sumL l + sumL m := by
 induction l with
 | nil => simp [sumL_nil]
 | cons x l ih => rw [List.cons_append, sumL_cons, sumL_cons, ih]; omega
def mayM (a : Int) : Bool := decide (-4611686018427387904 ≤ a ∧ a ≤ 4611686018427387904)
theorem mayM_iff (a : Int) : mayM a = true ↔ -4611686018427387904 ≤ a ∧ a ≤ 4611686018427387904 := by unfold mayM; exact decide_eq_true_iff
theorem mayM_not (a : Int) : mayM a = false ↔ ¬ (-4611686018427387904 ≤ a ∧ a ≤ 4611686018427387904) := by unfold mayM; exact decide_eq_false_iff_not
theorem sumL_bd (l : List Int) (h : ∀ x ∈ l, mayM x = true) : -(4611686018427387904 * (l.length : Int)) ≤ sumL l ∧ sumL l ≤ 4611686018427387904 * (l.length : Int) := by
 induction l with
 | nil => simp [sumL_nil]
 | cons x l ih =>
   have h1 := (mayM_iff x).1 (h x (by simp))
   have h2 := ih (fun y hy => h y (by simp [hy]))
   rw [sumL_cons]
   simp only [List.length_cons]
   omega

/-- What Sum tells: the value, and the error's number. -/
def sumV (l : List Int) : Int := if l.all mayM = true then (if mayM (sumL l) = true then sumL l else 0) else 0
def sumE (l : List Int) : Int := if l.all mayM = true then (if mayM (sumL l) = true then 0 else 3) else 2

end Go.Proofs.YtnaglnifpejpjaaGreatDoorK

namespace Go.Proofs.YtnaglnifpejpjaaGreatDoor.Money
set_option linter.unnecessarySimpa false
set_option linter.unusedVariables false
set_option linter.unusedSimpArgs false
open Go.RowKit Go.Proofs.YtnaglnifpejpjaaGreatDoorK

theorem ret_b {a b : Bool} (h : a = true ↔ b = true) : Ending.returned (.bool a) = .returned (.bool b) := by
 cases a <;> cases b <;> simp_all

theorem add64_run (x y c : Int) (hx : 0 ≤ x) (hy : 0 ≤ y) (hc0 : 0 ≤ c) (hc : c ≤ 1) (w : World) :
 (callFunc 170 #[.int .u64 x, .int .u64 y, .int .u64 c]).run Tryz.prog w = .ok (.value (.tuple #[.int .u64 (sumB x y c), .int .u64 (carB x y c)])) w := by
 rw [run_callFunc_extern Tryz.func170 (by kernel_rfl) (by kernel_rfl) (by kernel_rfl) (e := add64Entry) (by kernel_rfl), run_add64 x y c hx hy hc0 hc]
 rfl

theorem mmay_any (a : Int) (w : World) : Calls Tryz.prog 100 #[.int .i64 a] w fun e w' => e = .returned (.bool (mayM a)) ∧ w = w' := by
 go_enter Tryz.func100, Tryz.ntmps100
 go_wp2
 all_goals
  go_ret
  refine ⟨ret_b ?_, rfl⟩
  rw [mayM_iff]
  simp only [Bool.or_eq_true, Bool.and_eq_true, beq_iff_eq, Bool.false_eq_true, true_iff, false_iff, decide_eq_true_eq]
  omega

theorem plus_any (a0 a1 b0 b1 : Int) (w : World) (h1 : 0 ≤ a0) (h2 : 0 ≤ a1) (h3 : 0 ≤ b0) (h4 : 0 ≤ b1) (h5 : 0 ≤ carB a0 b0 0 ∧ carB a0 b0 0 ≤ 1) :
 Calls Tryz.prog 135 #[.agg #[.int .u64 a0, .int .u64 a1], .agg #[.int .u64 b0, .int .u64 b1]] w fun e w' => e = .returned (.agg #[.int .u64 (sumB a0 b0 0), .int .u64 (sumB a1 b1 (carB a0 b0 0))]) ∧ Below w.heap.size w w' := by
 have hA := fun w => add64_run a0 b0 0 h1 h3 (by omega) (by omega) w
 have hB := fun w => add64_run a1 b1 (carB a0 b0 0) h2 h4 h5.1 h5.2 w
 clear h5
 go_enter Tryz.func135, Tryz.ntmps135
 go_wp2
 exact bodyPost_ret (v := .agg #[.int .u64 (sumB a0 b0 0), .int .u64 (sumB a1 b1 (carB a0 b0 0))]) (by simp [results, Tryz.results135, go_sem]) rfl ⟨rfl, s_alloc (s_alloc (s_alloc (Below.refl _ _) _) _) _⟩

theorem of_any (a : Int) (w : World) (ha : -9223372036854775808 ≤ a ∧ a ≤ 9223372036854775807) :
 Calls Tryz.prog 136 #[.int .i64 a] w fun e w' => e = .returned (.agg #[.int .u64 (loB a), .int .u64 (hiB a)]) ∧ Below w.heap.size w w' := by
 obtain ⟨h1, h2⟩ := ha
 have hw : IntKind.u64.wrap a = loB a := by rw [IntKind.wrap_u64]; rfl
 by_cases h : a < 0
 ·have q := of_hi a h1 h2 h
  have Hw := Lib.hid hw
  have Q := Lib.hid q
  clear hw q
  go_enter Tryz.func136, Tryz.ntmps136
  go_wp2
  exact bodyPost_ret (v := .agg #[.int .u64 (IntKind.u64.wrap a), .int .u64 18446744073709551615]) (by simp [results, Tryz.results136, go_sem]) rfl ⟨by rw [Hw.out, Q.out], s_alloc (s_alloc (Below.refl _ _) _) _⟩
 ·have q := of_lo a h1 h2 (by omega)
  have Q := Lib.hid q
  clear hw q
  go_enter Tryz.func136, Tryz.ntmps136
  go_wp2
  exact bodyPost_ret (v := .agg #[.int .u64 a, .int .u64 0]) (by simp [results, Tryz.results136, go_sem]) rfl ⟨by rw [Q.out.1, Q.out.2], s_alloc (s_alloc (Below.refl _ _) _) _⟩

theorem eq_wide (a b c d : Int) (w : World) : (Op.equalIn 10000 158 (.agg #[.int .u64 a, .int .u64 b]) (.agg #[.int .u64 c, .int .u64 d])).run Tryz.prog w = .ok (a == c && b == d) w := by
 have u3 := Tryz.underlying156
 have a3 := Tryz.isAgg156
 have z3 := Tryz.sizeOf156
 rw [show (10000 : Nat) = 9999 + 1 from rfl, Op.equalIn]
 simp only [Sem.run_bind, run_underlying Tryz.underlying158, Result.andThen_ok]
 simp only [Std.Legacy.Range.forIn_eq_forIn_range', Std.Legacy.Range.size, Nat.sub_zero, Nat.add_sub_cancel, Nat.div_one, List.range'_succ, List.range'_zero, List.forIn_cons, List.forIn_nil]
 go_simp
 by_cases h1 : a = c <;> by_cases h2 : b = d <;> simp [h1, h2]

theorem wrap_nar (s : Int) : wrap64 (loB s) = narB s := by unfold wrap64 loB narB; omega

def toldV (s : Int) : Int := if mayM s = true then s else 0
def toldE (s : Int) : Int := if mayM s = true then 0 else 3

set_option maxHeartbeats 1000000 in
theorem told_in (s : Int) (w : World) (hs : -9223372036854775808 ≤ s ∧ s ≤ 9223372036854775807) :
 Calls Tryz.prog 137 #[.agg #[.int .u64 (loB s), .int .u64 (hiB s)]] w fun e w' => e = .returned (.tuple #[.int .i64 (toldV s), .int .i64 (toldE s)]) ∧ Below w.heap.size w w' := by
 have hn : wrap64 (loB s) = s := by rw [wrap_nar, nar_in s hs.1 hs.2]
 have hc := fun w => of_any s w hs
 generalize loB s = a0 at *
 generalize hiB s = a1 at *
 have Hn := Lib.hid hn
 have Hc := Lib.hid hc
 have hq := eq_wide a0 a1 a0 a1
 clear hn hc
 go_enter Tryz.func137, Tryz.ntmps137
 go_wp2_with fail
 rw [Hn.out]
 obtain ⟨W1, hW⟩ : ∃ W, W = w.alloc (.cells #[.int .u64 a0, .int .u64 a1] 158) := ⟨_, rfl⟩
 rw [← hW]
 have hb := s_alloc (Below.refl w.heap.size w) (.cells #[.int .u64 a0, .int .u64 a1] 158)
 rw [← hW] at hb
 have c0 : W1.cell? ⟨w.heap.size, 0, none⟩ = some (.int .u64 a0) := by rw [hW]; simp
 have c1 : W1.cell? ⟨w.heap.size, 1, none⟩ = some (.int .u64 a1) := by rw [hW]; simp
 have hlt : w.heap.size < W1.heap.size := by rw [hW]; simp
 have HB := Lib.hid hb
 have hcu := fun (u : Sub W1) => sub_cell u
 clear hW hb
 refine wp_region_sub (by kernel_rfl) (by kernel_rfl) ?_
 repeat (go_big_quiet_step ((go_at_call 136; exact calls_sub (Hc.out _))))
 refine wpQuiet_nil ?_
 rintro _ ⟨u, rfl⟩
 have hu := Lib.hid u.property
 generalize u.val = w3 at *
 clear hcu u c0 c1
 have hm : toldV s = (if mayM s = true then s else 0) ∧ toldE s = (if mayM s = true then 0 else 3) := ⟨rfl, rfl⟩
 have hmay := fun w => mmay_any s w
 cases hM : mayM s
 all_goals
  rw [hM] at hm hmay
  obtain ⟨e1, e2⟩ := hm
  have E1 := Lib.hid e1
  have E2 := Lib.hid e2
  have Hmay := Lib.hid hmay
  clear e1 e2 hM hmay
  go_wp2_with (go_at_call 100; refine (Hmay.out _).mono ?_; rintro e w4 ⟨rfl, rfl⟩)
  go_ret2
  exact ⟨by rw [E1.out, E2.out]; rfl, s_trans HB.out hu.out⟩

theorem lo_nar (s : Int) : loB (narB s) = loB s := by unfold loB narB; omega

set_option maxHeartbeats 1000000 in
theorem told_out (s : Int) (w : World) (h1 : -170141183460469231731687303715884105728 ≤ s) (h2 : s < 170141183460469231731687303715884105728) (hs : ¬ (-9223372036854775808 ≤ s ∧ s ≤ 9223372036854775807)) :
 Calls Tryz.prog 137 #[.agg #[.int .u64 (loB s), .int .u64 (hiB s)]] w fun e w' => e = .returned (.tuple #[.int .i64 (toldV s), .int .i64 (toldE s)]) ∧ Below w.heap.size w w' := by
 have hn : wrap64 (loB s) = narB s := wrap_nar s
 have hc := fun w => of_any (narB s) w (nar_bd s)
 rw [lo_nar] at hc
 have hne : hiB s ≠ hiB (narB s) := fun h => hs (by have := nar_same s h1 h2 (lo_nar s).symm h; rw [← this]; exact nar_bd s)
 have hM : mayM s = false := by rw [mayM_not]; omega
 have e1 : toldV s = 0 := by simp [toldV, hM]
 have e2 : toldE s = 3 := by simp [toldE, hM]
 rw [e1, e2]
 clear e1 e2 hM h1 h2 hs
 have hq := fun w => eq_wide (loB s) (hiB s) (loB s) (hiB (narB s)) w
 have hf : (loB s == loB s && hiB s == hiB (narB s)) = false := by simp [hne]
 rw [hf] at hq
 clear hf hne
 generalize loB s = a0 at *
 generalize hiB s = a1 at *
 generalize hiB (narB s) = b1 at *
 generalize narB s = n at *
 have Hn := Lib.hid hn
 have Hc := Lib.hid hc
 clear hn hc
 go_enter Tryz.func137, Tryz.ntmps137
 go_wp2_with fail
 rw [Hn.out]
 obtain ⟨W1, hW⟩ : ∃ W, W = w.alloc (.cells #[.int .u64 a0, .int .u64 a1] 158) := ⟨_, rfl⟩
 rw [← hW]
 have hb := s_alloc (Below.refl w.heap.size w) (.cells #[.int .u64 a0, .int .u64 a1] 158)
 rw [← hW] at hb
 have c0 : W1.cell? ⟨w.heap.size, 0, none⟩ = some (.int .u64 a0) := by rw [hW]; simp
 have c1 : W1.cell? ⟨w.heap.size, 1, none⟩ = some (.int .u64 a1) := by rw [hW]; simp
 have hlt : w.heap.size < W1.heap.size := by rw [hW]; simp
 have HB := Lib.hid hb
 have hcu := fun (u : Sub W1) => sub_cell u
 clear hW hb
 refine wp_region_sub (by kernel_rfl) (by kernel_rfl) ?_
 repeat (go_big_quiet_step ((go_at_call 136; exact calls_sub (Hc.out _))))
 refine wpQuiet_nil ?_
 rintro _ ⟨u, rfl⟩
 have hu := Lib.hid u.property
 generalize u.val = w3 at *
 clear hcu u c0 c1
 go_wp2
 go_ret2
 exact ⟨rfl, s_trans HB.out hu.out⟩

theorem told_any (s : Int) (w : World) (h1 : -170141183460469231731687303715884105728 ≤ s) (h2 : s < 170141183460469231731687303715884105728) :
 Calls Tryz.prog 137 #[.agg #[.int .u64 (loB s), .int .u64 (hiB s)]] w fun e w' => e = .returned (.tuple #[.int .i64 (toldV s), .int .i64 (toldE s)]) ∧ Below w.heap.size w w' := by
 by_cases hs : -9223372036854775808 ≤ s ∧ s ≤ 9223372036854775807
 ·exact told_in s w hs
 ·exact told_out s w h1 h2 hs

end Go.Proofs.YtnaglnifpejpjaaGreatDoor.Money

namespace Go.Proofs.YtnaglnifpejpjaaGreatDoor.Money
set_option linter.unnecessarySimpa false
set_option linter.unusedVariables false
set_option linter.unusedSimpArgs false
open Go.RowKit Go.Proofs.YtnaglnifpejpjaaGreatDoorK

/-- A slice of ints that is read: nil, empty and other ones alike. -/
def RInt (w : World) (A : Option Addr) (n : Nat) (xs : List Int) : Prop :=
 xs.length = n ∧ n ≤ 17592186044044 ∧ ∀ j, j < n → ∃ ad, A = some ad ∧ w.cell? (ad.add j) = some (.int .i64 (xs.getD j 0))

theorem take_sum (l : List Int) (k : Nat) (h : k < l.length) : sumL (l.take (k + 1)) = sumL (l.take k) + l.getD k 0 := by
 rw [List.take_succ_eq_append_getElem h, sumL_snoc]
 simp [List.getD_eq_getElem?_getD, h]

theorem plus_w (x y : Int) (w : World) : Calls Tryz.prog 135 #[.agg #[.int .u64 (loB x), .int .u64 (hiB x)], .agg #[.int .u64 (loB y), .int .u64 (hiB y)]] w fun e w' => e = .returned (.agg #[.int .u64 (loB (x + y)), .int .u64 (hiB (x + y))]) ∧ Below w.heap.size w w' := by
 have a := lo_bd x
 have b := lo_bd y
 have c := hi_bd x
 have d := hi_bd y
 have h := plus_any (loB x) (hiB x) (loB y) (hiB y) w a.1 c.1 b.1 d.1 (car_bd _ _ _ a.1 a.2 b.1 b.2 (by omega) (by omega))
 rw [plus_lo, plus_hi] at h
 exact h

set_option maxRecDepth 100000 in
set_option maxHeartbeats 2000000 in
theorem sum_any (A : Option Addr) (n c : Nat) (l : List Int) (w : World) (h : RInt w A n l) :
 Calls Tryz.prog 102 #[.slice A n c] w fun e w' => e = .returned (.tuple #[.int .i64 (sumV l), .int .i64 (sumE l)]) ∧ Below w.heap.size w w' := by
 obtain ⟨hl, hn, hr⟩ := h
 have Hr := Lib.hid hr
 have Hl := Lib.hid hl
 clear hr hl
 go_enter Tryz.func102, Tryz.ntmps102
 go_wp2
 go_loopw [9] (fun i wr => ∃ k : Nat, k ≤ n ∧ i = .int .i64 k ∧ Hid (Below w.heap.size w wr) ∧ Hid (wr.heap[w.heap.size]? = some (.cells #[.int .u64 (loB (sumL (l.take k))), .int .u64 (hiB (sumL (l.take k)))] 158 (0, 0))) ∧ Hid (∀ j, j < k → mayM (l.getD j 0) = true)) (fun i _ => n - (intOf i).toNat)
 case atStart => 
  refine ⟨0, Nat.zero_le _, rfl, s_alloc (Below.refl _ _) _, ?_, fun j hj => absurd hj (by omega)⟩
  exact Array.getElem?_push_size
 case round =>
  obtain ⟨k, hk, rfl, HB, HC, HM⟩ := hrel
  obtain ⟨c0, c1⟩ := cells2 HC.out
  by_cases hkn : k = n
  ·subst hkn
   have hlen := Hl.out
   have hall : ∀ x ∈ l, mayM x = true := fun x hx => by
    obtain ⟨i, hi, rfl⟩ := List.getElem_of_mem hx
    have := HM.out i (by omega)
    rwa [List.getD_eq_getElem?_getD, List.getElem?_eq_getElem hi] at this
   have hb := sumL_bd l hall
   have h1 : sumV l = toldV (sumL l) := by unfold sumV toldV; rw [if_pos (by rw [List.all_eq_true]; exact hall)]
   have h2 : sumE l = toldE (sumL l) := by unfold sumE toldE; rw [if_pos (by rw [List.all_eq_true]; exact hall)]
   rw [List.take_of_length_le (by omega)] at c0 c1
   rw [hlen] at hb
   have ht := fun w => told_any (sumL l) w (by omega) (by omega)
   rw [← h1, ← h2] at ht
   have Ht := Lib.hid ht
   generalize loB (sumL l) = a0 at *
   generalize hiB (sumL l) = a1 at *
   clear ht h1 h2 hb hall hlen hk
   go_wp2_with (go_at_call 137; refine (Ht.out _).mono ?_; rintro e w2 ⟨rfl, hb2⟩; have HB2 := Lib.hid hb2; clear hb2)
   go_ret2
   exact ⟨rfl, s_trans HB.out HB2.out⟩
  ·have hlt : k < n := by omega
   obtain ⟨ad, rfl, hc⟩ := Hr.out k hlt
   have hcell : wr.cell? (ad.add k) = some (.int .i64 (l.getD k 0)) := (HB.out.cell (World.block_lt_of_cell? w _ hc)).trans hc
   have hlen := Hl.out
   have hts := take_sum l k (by omega)
   have hmem : l.getD k 0 ∈ l := by
    rw [List.getD_eq_getElem?_getD, List.getElem?_eq_getElem (by omega)]
    simp
   clear hc hkn
   cases hM : mayM (l.getD k 0)
   ·have h1 : sumV l = 0 := by
     unfold sumV
     rw [if_neg (fun h => by rw [List.all_eq_true] at h; rw [h _ hmem] at hM; cases hM)]
    have h2 : sumE l = 2 := by
     unfold sumE
     rw [if_neg (fun h => by rw [List.all_eq_true] at h; rw [h _ hmem] at hM; cases hM)]
    have E1 := Lib.hid h1
    have E2 := Lib.hid h2
    have HMk := Lib.hid hM
    clear h1 h2 hM hmem hts hlen
    generalize l.getD k 0 = a at *
    go_wp2_with (go_at_call 100; refine (mmay_any _ _).mono ?_; rintro e w2 ⟨rfl, rfl⟩; rw [HMk.out])
    go_ret2
    exact ⟨by rw [E1.out, E2.out]; rfl, HB.out⟩
   ·have HMk := Lib.hid hM
    have hbd := (mayM_iff _).1 hM
    have HTS := Lib.hid hts
    clear hM hmem hts hlen
    generalize ha : l.getD k 0 = a at *
    have HA := Lib.hid ha
    clear ha
    generalize hs : sumL (l.take k) = s at *
    have HS := Lib.hid hs
    clear hs
    have hg := block_lt HC.out
    go_upto_region 7 with (go_at_call 100; refine (mmay_any _ _).mono ?_; rintro e w2 ⟨rfl, rfl⟩; rw [HMk.out])
    go_region_with (first
     | (go_at_call 136; refine (of_any a _ (by omega)).mono ?_; rintro e w1 ⟨rfl, hb1⟩; have HB1 := Lib.hid hb1; have hd1 := cells2 (block_on hb1 HC.out); have hf1 := blockFree (block_on hb1 HC.out); clear hb1)
     | (go_at_call 135; refine (plus_w _ _ _).mono ?_; rintro e w2 ⟨rfl, hb2⟩; have HC2 := Lib.hid (block_on hb2 (block_on HB1.out HC.out)); have hd2 := cells2 HC2.out; have hf2 := blockFree HC2.out; have HB2 := Lib.hid hb2; clear hb2))
    all_goals
     go_wp2
     go_roundw
     case rel =>
      refine ⟨k + 1, by omega, by go_num, s_set (s_set (s_trans (s_trans (s_drew HB.out) HB1.out) HB2.out) _ _ (by simp)) _ _ (by simp), ?_, ?_⟩
      ·have q := Go.Joins.block_setCell (i := 1) (Go.Joins.block_setCell (i := 0) HC2.out (.int .u64 (loB (s + a)))) (.int .u64 (hiB (s + a)))
       refine Lib.hid ?_
       rw [HTS.out]
       simpa using q
      ·intro j hj
       by_cases e : j = k
       ·rw [e, HA.out]; exact HMk.out
       ·exact HM.out j (by omega)
     case measure => simp [intOf]; omega

theorem total_any (A : Option Addr) (n c : Nat) (l : List Int) (w : World) (h : RInt w A n l) :
 Calls Tryz.prog 138 #[.slice A n c] w fun e w' => e = .returned (.tuple #[.int .i64 (sumV l), .int .i64 (sumE l)]) ∧ Below w.heap.size w w' := by
 have H := Lib.hid h
 clear h
 go_enter Tryz.func138, Tryz.ntmps138
 go_wp2_with (go_at_call 102; refine (sum_any _ _ _ _ _ H.out).mono ?_; rintro e w2 ⟨rfl, hb2⟩; have HB2 := Lib.hid hb2; clear hb2)
 go_ret2
 exact ⟨rfl, HB2.out⟩

theorem rint2 (a b : Int) (w : World) : RInt (w.alloc (.cells #[.int .i64 a, .int .i64 b] 3)) (some ⟨w.heap.size, 0, none⟩) 2 [a, b] := by
 refine ⟨rfl, by omega, fun j hj => ⟨_, rfl, ?_⟩⟩
 have : j = 0 ∨ j = 1 := by omega
 rcases this with rfl | rfl <;> simp [Addr.add]

theorem madd_any (a b : Int) (w : World) :
 Calls Tryz.prog 103 #[.int .i64 a, .int .i64 b] w fun e w' => e = .returned (.tuple #[.int .i64 (sumV [a, b]), .int .i64 (sumE [a, b])]) ∧ Below w.heap.size w w' := by
 go_enter Tryz.func103, Tryz.ntmps103
 go_wp2_with (go_at_call 138; refine (total_any _ _ _ [a, b] _ (rint2 a b w)).mono ?_; rintro e w2 ⟨rfl, hb2⟩; have HB2 := Lib.hid hb2; clear hb2)
 go_ret2
 exact ⟨rfl, s_trans (s_alloc (Below.refl _ _) _) HB2.out⟩

end Go.Proofs.YtnaglnifpejpjaaGreatDoor.Money
