-- WRITTEN BY wip/xprint.py (my own wrapper round the print, with contracts of my own in it)
import Derived.Test.YtnaglnifpejpjaaGreatDoorQXEvalRunsx0
import Derived.Test.YtnaglnifpejpjaaGreatDoorQXEvalRunsx1
import Derived.Test.YtnaglnifpejpjaaGreatDoorQXEvalRunsx11
namespace Go.Proofs.YtnaglnifpejpjaaGreatDoor.XEvalRuns
open Go.RowKit Go.Proofs.YtnaglnifpejpjaaGreatDoorW.PrintWords Go.Proofs.YtnaglnifpejpjaaGreatDoorW.PrintLast Go.Proofs.YtnaglnifpejpjaaGreatDoorW.PrintMore
attribute [local go_sem] max2_int min2_int max_two min_two max_three min_three max_four min_four   -- for this text's walks alone
set_option linter.unusedVariables false
set_option linter.unusedSimpArgs false

attribute [local go_sem high] eqA43
/-! ### octroiref34_known: function 63 -/
mutual
def octroiref34_known.l0 : Nat → Int → List (S35) → Int → Option (Int × Int)
 | 0, _, _, _ => none
 | k + 1, x0, x1, x6 => if x6 < (x1.length : Int) then (if 0 ≤ x6 then (if ((rd_T35 x1 x6).f0) = x0 then (octroiref34_known.j1 k x0 x1 x6 ((rd_T35 x1 x6).f2)) else (octroiref34_known.j1 k x0 x1 x6 false)) else (none)) else (some (0, 83))
def octroiref34_known.j1 : Nat → Int → List (S35) → Int → Bool → Option (Int × Int)
 | 0, _, _, _, _ => none
 | k + 1, x0, x1, x6, x26 => if x26 = true then (if 0 ≤ x6 then (if x6 < (x1.length : Int) then ((octroiref01_May.f ((rd_T35 x1 x6).f1)).bind fun t402 => (if t402 = true then (some ((rd_T35 x1 x6).f1, 0)) else (some (0, 2)))) else (none)) else (none)) else (octroiref34_known.l0 k x0 x1 (wrap64 (x6 + 1)))
end
def octroiref34_known.f (k : Nat) (a0 : Int) (l1 : List (S35)) : Option (Int × Int) := octroiref34_known.l0 k a0 l1 0
set_option maxHeartbeats 8000000 in
set_option maxRecDepth 100000 in
theorem octroiref34_known.calls (k : Nat) (a0 : Int) (A1 : Option Addr) (c1 : Nat) (l1 : List (S35)) (r1 r2 : Int) (w : World) (hr1 : Kd.C k35 w A1 l1.length l1) (hc1 : l1.length ≤ c1) (h : octroiref34_known.f k a0 l1 = some (r1, r2)) :
  Calls Tryz.prog 63 #[.int .i64 a0, .slice A1 l1.length c1] w fun e w' => e = .returned (.tuple #[.int .i64 r1, .int .i64 r2]) ∧ Drawn0 w w' := by
 have HR1 := A0m hr1
 have HC1 := A0m hc1
 clear hr1 hc1
 have H : (octroiref34_known.l0 k a0 l1 0) = some (r1, r2) := h
 clear h
 have H' := A0m H
 clear H
 go_enter Tryz.func63, Tryz.ntmps63
 go_wp2
 go_loopg [6] k (fun kq v6 w' => ∃ (x6_1 : Int), v6 = .int .i64 x6_1 ∧ Aside0 (octroiref34_known.l0 kq a0 l1 x6_1 = some (r1, r2)) ∧ Aside0 (kq ≤ k) ∧ Drawn0 w w')
 case atStart => exact ⟨(0), (by first | rfl | (simp; done) | (simp [*]; done)), H', ⟨Nat.le_refl _⟩, by repeat (first | exact Drawn0.refl _ | apply Drawn0.step)⟩
 case round =>
  clear H'
  try clear c1
  try clear p2
  obtain ⟨x6_1, rfl, HA, HK1, ⟨m1, rfl⟩⟩ := hrel
  cases gk with
  | zero => exact absurd HA.out (by simp [octroiref34_known.l0])
  | succ k1 =>
   have H := HA.out
   clear HA
   simp only [octroiref34_known.l0] at H
   by_cases c3 : x6_1 < (l1.length : Int)
   ·rw [if_pos c3] at H
    have c3b0 : decide (x6_1 < (l1.length : Int)) = true := decide_eq_true c3
    clear c3
    have HC4 := A0m H
    clear H
    go_upto_region 4 with (fail)
    go_cut [26] (fun v26 wc => ∃ (kq : Nat) (x26_3 : Bool), v26 = .bool x26_3 ∧ Aside0 (octroiref34_known.j1 kq a0 l1 x6_1 x26_3 = some (r1, r2)) ∧ Aside0 (kq ≤ k1) ∧ Drawn0 w wc)
    case first =>
     have H := HC4.out
     clear HC4
     by_cases c5 : 0 ≤ x6_1
     ·rw [if_pos c5] at H
      have c5b0 : decide (0 ≤ x6_1) = true := decide_eq_true c5
      clear c5
      (first | rw [c5b0] | (simp only [i64_w, i32_w]; rw [c5b0]) | skip)
      by_cases c6 : ((rd_T35 l1 x6_1).f0) = a0
      ·rw [if_pos c6] at H
       have c6b0 : (((rd_T35 l1 x6_1).f0) == a0) = true := beq_iff_eq.mpr c6
       have c6b1 : (((rd_T35 l1 x6_1).f0) != a0) = false := bne_eq_false_iff_eq.mpr c6
       clear c6
       have H' := A0m H
       clear H
       have p399 : 0 ≤ (x6_1 : Int) := dT (by first | (with_reducible assumption) | assumption)
       have q399 : x6_1 < (l1.length : Int) := dT (by first | (with_reducible assumption) | assumption)
       obtain ⟨ad399, e399, hx399_0, hx399_1, hx399_2⟩ := at_T35 HR1.out x6_1 p399 q399
       cases e399
       replace p399 := eq_true p399
       replace q399 := eq_true q399
       have p400 : 0 ≤ (x6_1 : Int) := dT (by first | (with_reducible assumption) | assumption)
       have q400 : x6_1 < (l1.length : Int) := dT (by first | (with_reducible assumption) | assumption)
       obtain ⟨ad400, e400, hx400_0, hx400_1, hx400_2⟩ := at_T35 HR1.out x6_1 p400 q400
       obtain rfl : ad399 = ad400 := (by injection e400)
       replace p400 := eq_true p400
       replace q400 := eq_true q400
       go_wp2
       go_meet
       case rel => exact ⟨_, ((rd_T35 l1 x6_1).f2), (by first | rfl | (simp; done) | (simp [*]; done)), H', ⟨by have := HK1.out; first | omega | exact Nat.le_refl _⟩, by repeat (first | exact Drawn0.refl _ | apply Drawn0.step)⟩
      ·rw [if_neg c6] at H
       have c6b0 : (((rd_T35 l1 x6_1).f0) == a0) = false := beq_eq_false_iff_ne.mpr c6
       have c6b1 : (((rd_T35 l1 x6_1).f0) != a0) = true := bne_iff_ne.mpr c6
       have H' := A0m H
       clear H
       have p399 : 0 ≤ (x6_1 : Int) := dT (by first | (with_reducible assumption) | assumption)
       have q399 : x6_1 < (l1.length : Int) := dT (by first | (with_reducible assumption) | assumption)
       obtain ⟨ad399, e399, hx399_0, hx399_1, hx399_2⟩ := at_T35 HR1.out x6_1 p399 q399
       cases e399
       replace p399 := eq_true p399
       replace q399 := eq_true q399
       go_wp2
       go_meet
       case rel => exact ⟨_, (false), (by first | rfl | (simp; done) | (simp [*]; done)), H', ⟨by have := HK1.out; first | omega | exact Nat.le_refl _⟩, by repeat (first | exact Drawn0.refl _ | apply Drawn0.step)⟩
     ·rw [if_neg c5] at H
      exact absurd H (by simp)
    case rest =>
     clear HC4
     try clear c1
     try clear p2
     try clear c3
     try clear c3b0
     try clear p3
     try clear q3
     try clear hx3
     try clear p4
     try clear q4
     try clear hx4
     try clear c5
     try clear c5b0
     try clear c6
     try clear c6b0
     try clear c6b1
     try clear hx399_0
     try clear hx399_1
     try clear hx399_2
     try clear hx400_0
     try clear hx400_1
     try clear hx400_2
     try clear p2
     try clear p399
     try clear p400
     try clear q399
     try clear q400
     obtain ⟨kq, x26_3, rfl, HA, HJ3, ⟨mc3, rfl⟩⟩ := hcut
     cases kq with
     | zero => exact absurd HA.out (by simp [octroiref34_known.j1])
     | succ kj3 =>
      have H := HA.out
      clear HA
      simp only [octroiref34_known.j1] at H
      by_cases c7 : x26_3 = true
      ·subst c7
       have H1 : (if 0 ≤ x6_1 then (if x6_1 < (l1.length : Int) then ((octroiref01_May.f ((rd_T35 l1 x6_1).f1)).bind fun t402 => (if t402 = true then (some ((rd_T35 l1 x6_1).f1, 0)) else (some (0, 2)))) else (none)) else (none)) = some (r1, r2) := by rw [if_pos rfl] at H; exact H
       clear H
       have H := H1
       clear H1
       by_cases c8 : 0 ≤ x6_1
       ·rw [if_pos c8] at H
        have c8b0 : decide (0 ≤ x6_1) = true := decide_eq_true c8
        clear c8
        by_cases c9 : x6_1 < (l1.length : Int)
        ·rw [if_pos c9] at H
         have c9b0 : decide (x6_1 < (l1.length : Int)) = true := decide_eq_true c9
         clear c9
         replace H := Option.bind_eq_some_iff.mp H
         obtain ⟨t402, A100, H⟩ := H
         replace H : (if t402 = true then (some ((rd_T35 l1 x6_1).f1, 0)) else (some (0, 2))) = some (r1, r2) := H
         have A10 := A0m A100
         clear A100
         by_cases c11 : t402 = true
         ·subst c11
          have H1 : (some ((rd_T35 l1 x6_1).f1, 0)) = some (r1, r2) := by rw [if_pos rfl] at H; exact H
          clear H
          have H := H1
          clear H1
          simp only [Option.some.injEq, Prod.mk.injEq] at H
          obtain ⟨rfl, rfl⟩ := H
          have p401 : 0 ≤ (x6_1 : Int) := dT (by first | (with_reducible assumption) | assumption)
          have q401 : x6_1 < (l1.length : Int) := dT (by first | (with_reducible assumption) | assumption)
          obtain ⟨ad401, e401, hx401_0, hx401_1, hx401_2⟩ := at_T35 HR1.out x6_1 p401 q401
          cases e401
          replace p401 := eq_true p401
          replace q401 := eq_true q401
          go_wp2_with (first | ((with_reducible refine gate_callee (f := 32) rfl ?_); refine goesL_ (some 32) rfl rfl Tryz.func32 (by kernel_rfl) rfl #[.int .i64 ((rd_T35 l1 x6_1).f1)] rfl (by (try simp only [List.map_toArray, List.map_cons, List.map_nil]); first | done | rfl | (simp only [List.length_drop, List.length_take]; rfl)) ?_; (with_reducible refine (octroiref01_May.calls ((rd_T35 l1 x6_1).f1) true _ A10.out).mono ?_); rintro e w' ⟨rfl, ⟨nd, rfl⟩⟩; refine ⟨_, rfl, ?_⟩; have p403 : 0 ≤ (x6_1 : Int) := dT (by first | (with_reducible assumption) | assumption); have q403 : x6_1 < (l1.length : Int) := dT (by first | (with_reducible assumption) | assumption); obtain ⟨ad403, e403, hx403_0, hx403_1, hx403_2⟩ := at_T35 HR1.out x6_1 p403 q403; obtain rfl : ad401 = ad403 := (by injection e403); replace p403 := eq_true p403; replace q403 := eq_true q403))
          go_ret2
          exact ⟨by first | rfl | (simp; done) | (simp [*]; done), by repeat (first | exact Drawn0.refl _ | apply Drawn0.step)⟩
         ·replace c11 := Bool.eq_false_iff.mpr c11
          subst c11
          have H1 : (some (0, 2)) = some (r1, r2) := by rw [if_neg (show ¬ (false = true) by decide)] at H; exact H
          clear H
          have H := H1
          clear H1
          simp only [Option.some.injEq, Prod.mk.injEq] at H
          obtain ⟨rfl, rfl⟩ := H
          have p401 : 0 ≤ (x6_1 : Int) := dT (by first | (with_reducible assumption) | assumption)
          have q401 : x6_1 < (l1.length : Int) := dT (by first | (with_reducible assumption) | assumption)
          obtain ⟨ad401, e401, hx401_0, hx401_1, hx401_2⟩ := at_T35 HR1.out x6_1 p401 q401
          cases e401
          replace p401 := eq_true p401
          replace q401 := eq_true q401
          go_wp2_with (first | ((with_reducible refine gate_callee (f := 32) rfl ?_); refine goesL_ (some 32) rfl rfl Tryz.func32 (by kernel_rfl) rfl #[.int .i64 ((rd_T35 l1 x6_1).f1)] rfl (by (try simp only [List.map_toArray, List.map_cons, List.map_nil]); first | done | rfl | (simp only [List.length_drop, List.length_take]; rfl)) ?_; (with_reducible refine (octroiref01_May.calls ((rd_T35 l1 x6_1).f1) false _ A10.out).mono ?_); rintro e w' ⟨rfl, ⟨nd, rfl⟩⟩; refine ⟨_, rfl, ?_⟩))
          go_ret2
          exact ⟨by first | rfl | (simp; done) | (simp [*]; done), by repeat (first | exact Drawn0.refl _ | apply Drawn0.step)⟩
        ·rw [if_neg c9] at H
         exact absurd H (by simp)
       ·rw [if_neg c8] at H
        exact absurd H (by simp)
      ·replace c7 := Bool.eq_false_iff.mpr c7
       subst c7
       have H1 : (octroiref34_known.l0 kj3 a0 l1 (wrap64 (x6_1 + 1))) = some (r1, r2) := by rw [if_neg (show ¬ (false = true) by decide)] at H; exact H
       clear H
       have H := H1
       clear H1
       have H' := A0m H
       clear H
       go_wp2
       go_roundg kj3
       case measure => have := HK1.out; have := HJ3.out; omega
       case rel => exact ⟨(wrap64 (x6_1 + 1)), (by first | rfl | (simp; done) | (simp [*]; done)), H', ⟨by have := HK1.out; have := HJ3.out; omega⟩, by repeat (first | exact Drawn0.refl _ | apply Drawn0.step)⟩
   ·rw [if_neg c3] at H
    have c3b0 : decide (x6_1 < (l1.length : Int)) = false := decide_eq_false c3
    clear c3
    simp only [Option.some.injEq, Prod.mk.injEq] at H
    obtain ⟨rfl, rfl⟩ := H
    go_wp2
    go_ret2
    exact ⟨by first | rfl | (simp; done) | (simp [*]; done), by repeat (first | exact Drawn0.refl _ | apply Drawn0.step)⟩

/-! ### octroiref25_one: function 67 -/
def octroiref25_one.f (a0 : Bool) : Option (Int) := if a0 = true then (some 1) else (some 0)
set_option maxHeartbeats 8000000 in
set_option maxRecDepth 100000 in
theorem octroiref25_one.calls (a0 : Bool) (r : Int) (w : World) (h : octroiref25_one.f a0 = some r) :
    Calls Tryz.prog 67 #[.bool a0] w fun e w' => e = .returned (.int .i64 r) ∧ Drawn0 w w' := by
  have H : (if a0 = true then (some 1) else (some 0)) = some r := h
  clear h
  by_cases c2 : a0 = true
  · subst c2
    have H1 : (some 1) = some r := by rw [if_pos rfl] at H; exact H
    clear H
    have H := H1
    clear H1
    obtain rfl := Option.some.inj H
    go_enter Tryz.func67, Tryz.ntmps67
    go_wp2
    go_ret
    exact ⟨by first | rfl | (simp; done) | (simp [*]; done), by repeat (first | exact Drawn0.refl _ | apply Drawn0.step)⟩
  · replace c2 := Bool.eq_false_iff.mpr c2
    subst c2
    have H1 : (some 0) = some r := by rw [if_neg (show ¬ (false = true) by decide)] at H; exact H
    clear H
    have H := H1
    clear H1
    obtain rfl := Option.some.inj H
    go_enter Tryz.func67, Tryz.ntmps67
    go_wp2
    go_ret
    exact ⟨by first | rfl | (simp; done) | (simp [*]; done), by repeat (first | exact Drawn0.refl _ | apply Drawn0.step)⟩

/-! ### octroiref25_Late: function 68 -/
def octroiref25_Late.f (a0_0 a0_1 a0_2 a0_3 a0_4 a0_5 : Int) (a0_6 : ByteArray) (a0_7 : Bool) (a0_8 a0_9 a0_10 : Int) (a0_11 a0_12 : ByteArray) (a0_13 a0_14 a0_15 : Int) (a0_16 : Bool) : Option (Bool) := some (!(a0_0 == a0_3) || (!(a0_1 == a0_4) || (!(a0_2 == a0_5))))
set_option maxHeartbeats 8000000 in
set_option maxRecDepth 100000 in
theorem octroiref25_Late.calls (a0_0 a0_1 a0_2 a0_3 a0_4 a0_5 : Int) (a0_6 : ByteArray) (a0_7 : Bool) (a0_8 a0_9 a0_10 : Int) (a0_11 a0_12 : ByteArray) (a0_13 a0_14 a0_15 : Int) (a0_16 r : Bool) (w : World) (h : octroiref25_Late.f a0_0 a0_1 a0_2 a0_3 a0_4 a0_5 a0_6 a0_7 a0_8 a0_9 a0_10 a0_11 a0_12 a0_13 a0_14 a0_15 a0_16 = some r) :
  Calls Tryz.prog 68 #[.agg #[.int .i64 a0_0, .int .i64 a0_1, .int .i64 a0_2, .int .i64 a0_3, .int .i64 a0_4, .int .i64 a0_5, .string a0_6, .bool a0_7, .int .i64 a0_8, .int .i64 a0_9, .int .i64 a0_10, .string a0_11, .string a0_12, .int .i64 a0_13, .int .i64 a0_14, .int .i64 a0_15, .bool a0_16]] w fun e w' => e = .returned (.bool r) ∧ Below w.heap.size w w' := by
 have hu45 := Tryz.underlying45
 have hu43 := Tryz.underlying43
 have HB := A0m (Below.refl w.heap.size w)
 have H : (some (!(a0_0 == a0_3) || (!(a0_1 == a0_4) || (!(a0_2 == a0_5))))) = some r := h
 clear h
 obtain rfl := Option.some.inj H
 go_enter Tryz.func68, Tryz.ntmps68
 go_wp2_with (first | ((with_reducible refine gate_dst (N := 1) rfl ?_); refine box_event ?hg (N := 1) ?hd (cs := #[.int .i64 a0_0, .int .i64 a0_1, .int .i64 a0_2, .int .i64 a0_3, .int .i64 a0_4, .int .i64 a0_5, .string a0_6, .bool a0_7, .int .i64 a0_8, .int .i64 a0_9, .int .i64 a0_10, .string a0_11, .string a0_12, .int .i64 a0_13, .int .i64 a0_14, .int .i64 a0_15, .bool a0_16]) (t := 45) ?hr ?_; (case hd => rfl); (case hg => rfl); (case hr => first | (go_simp; done) | (go_simp; rfl)); intro gb404 hg w2 hbox hb; have n0_ := A0m (below_step (by repeat (first | (with_reducible first | exact HB.out | apply bA | apply bN | apply bD) | exact HB.out)) hb); have n1_ := A0m (hbox); have n2_ := A0m ((by rw [hg]; exact (below_size (by repeat (first | (with_reducible first | exact HB.out | apply bA | apply bN | apply bD) | exact HB.out))) : w.heap.size ≤ gb404)); have n3_ := A0m ((by rw [hg]; exact (below_size (by repeat (first | (with_reducible first | exact HB.out | apply bA | apply bN | apply bD) | exact HB.out))) : w.heap.size ≤ gb404)); clear HB; have HB := n0_; have BK404 := n1_; have GW404 := n2_; have GE404 := n3_; clear n0_ n1_ n2_ n3_; clear hb hbox hg; have hcz3_0 : w2.cell? ⟨gb404, 0, none⟩ = some (.int .i64 a0_0) := (kC BK404.out 0).trans rfl; have hcz3_1 : w2.cell? ⟨gb404, 1, none⟩ = some (.int .i64 a0_1) := (kC BK404.out 1).trans rfl; have hcz3_2 : w2.cell? ⟨gb404, 2, none⟩ = some (.int .i64 a0_2) := (kC BK404.out 2).trans rfl; have hcz3_3 : w2.cell? ⟨gb404, 3, none⟩ = some (.int .i64 a0_3) := (kC BK404.out 3).trans rfl; have hcz3_4 : w2.cell? ⟨gb404, 4, none⟩ = some (.int .i64 a0_4) := (kC BK404.out 4).trans rfl; have hcz3_5 : w2.cell? ⟨gb404, 5, none⟩ = some (.int .i64 a0_5) := (kC BK404.out 5).trans rfl; have hcz3_6 : w2.cell? ⟨gb404, 6, none⟩ = some (.string a0_6) := (kC BK404.out 6).trans rfl; have hcz3_7 : w2.cell? ⟨gb404, 7, none⟩ = some (.bool a0_7) := (kC BK404.out 7).trans rfl; have hcz3_8 : w2.cell? ⟨gb404, 8, none⟩ = some (.int .i64 a0_8) := (kC BK404.out 8).trans rfl; have hcz3_9 : w2.cell? ⟨gb404, 9, none⟩ = some (.int .i64 a0_9) := (kC BK404.out 9).trans rfl; have hcz3_10 : w2.cell? ⟨gb404, 10, none⟩ = some (.int .i64 a0_10) := (kC BK404.out 10).trans rfl; have hcz3_11 : w2.cell? ⟨gb404, 11, none⟩ = some (.string a0_11) := (kC BK404.out 11).trans rfl; have hcz3_12 : w2.cell? ⟨gb404, 12, none⟩ = some (.string a0_12) := (kC BK404.out 12).trans rfl; have hcz3_13 : w2.cell? ⟨gb404, 13, none⟩ = some (.int .i64 a0_13) := (kC BK404.out 13).trans rfl; have hcz3_14 : w2.cell? ⟨gb404, 14, none⟩ = some (.int .i64 a0_14) := (kC BK404.out 14).trans rfl; have hcz3_15 : w2.cell? ⟨gb404, 15, none⟩ = some (.int .i64 a0_15) := (kC BK404.out 15).trans rfl; have hcz3_16 : w2.cell? ⟨gb404, 16, none⟩ = some (.bool a0_16) := (kC BK404.out 16).trans rfl; have hfz3_0 := kF BK404.out 0; have hfz3_1 := kF BK404.out 1; have hfz3_2 := kF BK404.out 2; have hfz3_3 := kF BK404.out 3; have hfz3_4 := kF BK404.out 4; have hfz3_5 := kF BK404.out 5; have hfz3_6 := kF BK404.out 6; have hfz3_7 := kF BK404.out 7; have hfz3_8 := kF BK404.out 8; have hfz3_9 := kF BK404.out 9; have hfz3_10 := kF BK404.out 10; have hfz3_11 := kF BK404.out 11; have hfz3_12 := kF BK404.out 12; have hfz3_13 := kF BK404.out 13; have hfz3_14 := kF BK404.out 14; have hfz3_15 := kF BK404.out 15; have hfz3_16 := kF BK404.out 16))
 go_ret
 exact ⟨by first | rfl | (simp [errW_none, errW_some] <;> rfl) | (simp [*, errW_none, errW_some] <;> rfl), by repeat (first | (with_reducible first | exact HB.out | apply bA | apply bN | apply bD | refine bS ?_ GE404.out) | exact HB.out)⟩

/-! ### octroiref25_Tag: function 31 -/
def octroiref25_Tag.f (a0_0 a0_1 a0_2 a0_3 a0_4 a0_5 : Int) (a0_6 : ByteArray) (a0_7 : Bool) (a0_8 a0_9 a0_10 : Int) (a0_11 a0_12 : ByteArray) (a0_13 a0_14 a0_15 : Int) (a0_16 : Bool) (a1 : ByteArray) : Option (Int × Bool) := if a1.toList = ([116, 114, 101, 97, 116] : List UInt8) then (some (a0_9, true)) else (if a1.toList = ([114, 97, 116, 101] : List UInt8) then (some (a0_10, true)) else (if a1.toList = ([115, 117, 112, 112, 108, 121] : List UInt8) then (some (a0_8, true)) else (if a1.toList = ([115, 97, 108, 101] : List UInt8) then ((octroiref25_one.f a0_7).bind fun t406 => (some (t406, true))) else (if a1.toList = ([108, 97, 116, 101] : List UInt8) then ((octroiref25_Late.f a0_0 a0_1 a0_2 a0_3 a0_4 a0_5 a0_6 a0_7 a0_8 a0_9 a0_10 a0_11 a0_12 a0_13 a0_14 a0_15 a0_16).bind fun t407 => ((octroiref25_one.f t407).bind fun t408 => (some (t408, true)))) else (if a1.toList = ([109, 105, 120, 101, 100] : List UInt8) then ((octroiref25_one.f a0_16).bind fun t409 => (some (t409, true))) else (some (0, false)))))))
set_option maxHeartbeats 8000000 in
set_option maxRecDepth 100000 in
theorem octroiref25_Tag.calls (a0_0 a0_1 a0_2 a0_3 a0_4 a0_5 : Int) (a0_6 : ByteArray) (a0_7 : Bool) (a0_8 a0_9 a0_10 : Int) (a0_11 a0_12 : ByteArray) (a0_13 a0_14 a0_15 : Int) (a0_16 : Bool) (a1 : ByteArray) (r1 : Int) (r2 : Bool) (w : World) (h : octroiref25_Tag.f a0_0 a0_1 a0_2 a0_3 a0_4 a0_5 a0_6 a0_7 a0_8 a0_9 a0_10 a0_11 a0_12 a0_13 a0_14 a0_15 a0_16 a1 = some (r1, r2)) :
  Calls Tryz.prog 31 #[.agg #[.int .i64 a0_0, .int .i64 a0_1, .int .i64 a0_2, .int .i64 a0_3, .int .i64 a0_4, .int .i64 a0_5, .string a0_6, .bool a0_7, .int .i64 a0_8, .int .i64 a0_9, .int .i64 a0_10, .string a0_11, .string a0_12, .int .i64 a0_13, .int .i64 a0_14, .int .i64 a0_15, .bool a0_16], .string a1] w fun e w' => e = .returned (.tuple #[.int .i64 r1, .bool r2]) ∧ Below w.heap.size w w' := by
 have hu45 := Tryz.underlying45
 have HB := A0m (Below.refl w.heap.size w)
 have H : (if a1.toList = ([116, 114, 101, 97, 116] : List UInt8) then (some (a0_9, true)) else (if a1.toList = ([114, 97, 116, 101] : List UInt8) then (some (a0_10, true)) else (if a1.toList = ([115, 117, 112, 112, 108, 121] : List UInt8) then (some (a0_8, true)) else (if a1.toList = ([115, 97, 108, 101] : List UInt8) then ((octroiref25_one.f a0_7).bind fun t406 => (some (t406, true))) else (if a1.toList = ([108, 97, 116, 101] : List UInt8) then ((octroiref25_Late.f a0_0 a0_1 a0_2 a0_3 a0_4 a0_5 a0_6 a0_7 a0_8 a0_9 a0_10 a0_11 a0_12 a0_13 a0_14 a0_15 a0_16).bind fun t407 => ((octroiref25_one.f t407).bind fun t408 => (some (t408, true)))) else (if a1.toList = ([109, 105, 120, 101, 100] : List UInt8) then ((octroiref25_one.f a0_16).bind fun t409 => (some (t409, true))) else (some (0, false)))))))) = some (r1, r2) := h
 clear h
 by_cases c3 : a1.toList = ([116, 114, 101, 97, 116] : List UInt8)
 ·rw [if_pos c3] at H
  have c3b0 : (a1.toList == ([116, 114, 101, 97, 116] : List UInt8)) = true := beq_iff_eq.mpr c3
  have c3b1 : (a1.toList != ([116, 114, 101, 97, 116] : List UInt8)) = false := bne_eq_false_iff_eq.mpr c3
  clear c3
  simp only [Option.some.injEq, Prod.mk.injEq] at H
  obtain ⟨rfl, rfl⟩ := H
  go_enter Tryz.func31, Tryz.ntmps31
  go_wp2_with (first | ((first | (with_reducible refine gate_dst (N := 26) rfl ?_)); (try (refine gate_guard (by rfl) ?_; dsimp only)); apply RowTake.wpl_row (ty := 45) (hu := Tryz.underlying45) (hd := rfl); (case hgd => rfl); (case ho => rfl); (case hx => rfl); (case hg => repeat (first | exact Aside0.out (by with_reducible assumption) | refine kN ?_ _ | refine kD ?_ | refine kA ?_ _)); (case hi => kernel_rfl)) | ((with_reducible refine gate_dst (N := 2) rfl ?_); refine box_event ?hg (N := 2) ?hd (cs := #[.int .i64 a0_0, .int .i64 a0_1, .int .i64 a0_2, .int .i64 a0_3, .int .i64 a0_4, .int .i64 a0_5, .string a0_6, .bool a0_7, .int .i64 a0_8, .int .i64 a0_9, .int .i64 a0_10, .string a0_11, .string a0_12, .int .i64 a0_13, .int .i64 a0_14, .int .i64 a0_15, .bool a0_16]) (t := 45) ?hr ?_; (case hd => rfl); (case hg => rfl); (case hr => first | (go_simp; done) | (go_simp; rfl)); intro gb405 hg w4 hbox hb; have n0_ := A0m (below_step (by repeat (first | (with_reducible first | exact HB.out | apply bA | apply bN | apply bD) | exact HB.out)) hb); have n1_ := A0m (hbox); have n2_ := A0m ((by rw [hg]; exact (below_size (by repeat (first | (with_reducible first | exact HB.out | apply bA | apply bN | apply bD) | exact HB.out))) : w.heap.size ≤ gb405)); have n3_ := A0m ((by rw [hg]; exact (below_size (by repeat (first | (with_reducible first | exact HB.out | apply bA | apply bN | apply bD) | exact HB.out))) : w.heap.size ≤ gb405)); clear HB; have HB := n0_; have BK405 := n1_; have GW405 := n2_; have GE405 := n3_; clear n0_ n1_ n2_ n3_; clear hb hbox hg; have hcz5_7 : w4.cell? ⟨gb405, 7, none⟩ = some (.bool a0_7) := (kC BK405.out 7).trans rfl; have hcz5_8 : w4.cell? ⟨gb405, 8, none⟩ = some (.int .i64 a0_8) := (kC BK405.out 8).trans rfl; have hcz5_9 : w4.cell? ⟨gb405, 9, none⟩ = some (.int .i64 a0_9) := (kC BK405.out 9).trans rfl; have hcz5_10 : w4.cell? ⟨gb405, 10, none⟩ = some (.int .i64 a0_10) := (kC BK405.out 10).trans rfl; have hcz5_16 : w4.cell? ⟨gb405, 16, none⟩ = some (.bool a0_16) := (kC BK405.out 16).trans rfl; have hfz5_7 := kF BK405.out 7; have hfz5_8 := kF BK405.out 8; have hfz5_9 := kF BK405.out 9; have hfz5_10 := kF BK405.out 10; have hfz5_16 := kF BK405.out 16))
  go_ret2
  exact ⟨by first | rfl | (simp [errW_none, errW_some] <;> rfl) | (simp [*, errW_none, errW_some] <;> rfl), by repeat (first | (with_reducible first | exact HB.out | apply bA | apply bN | apply bD | refine bS ?_ GE405.out) | exact HB.out)⟩
 ·rw [if_neg c3] at H
  have c3b0 : (a1.toList == ([116, 114, 101, 97, 116] : List UInt8)) = false := beq_eq_false_iff_ne.mpr c3
  have c3b1 : (a1.toList != ([116, 114, 101, 97, 116] : List UInt8)) = true := bne_iff_ne.mpr c3
  by_cases c6 : a1.toList = ([114, 97, 116, 101] : List UInt8)
  ·rw [if_pos c6] at H
   have c6b0 : (a1.toList == ([114, 97, 116, 101] : List UInt8)) = true := beq_iff_eq.mpr c6
   have c6b1 : (a1.toList != ([114, 97, 116, 101] : List UInt8)) = false := bne_eq_false_iff_eq.mpr c6
   clear c6
   simp only [Option.some.injEq, Prod.mk.injEq] at H
   obtain ⟨rfl, rfl⟩ := H
   go_enter Tryz.func31, Tryz.ntmps31
   go_wp2_with (first | ((first | (with_reducible refine gate_dst (N := 26) rfl ?_)); (try (refine gate_guard (by rfl) ?_; dsimp only)); apply RowTake.wpl_row (ty := 45) (hu := Tryz.underlying45) (hd := rfl); (case hgd => rfl); (case ho => rfl); (case hx => rfl); (case hg => repeat (first | exact Aside0.out (by with_reducible assumption) | refine kN ?_ _ | refine kD ?_ | refine kA ?_ _)); (case hi => kernel_rfl)) | ((with_reducible refine gate_dst (N := 2) rfl ?_); refine box_event ?hg (N := 2) ?hd (cs := #[.int .i64 a0_0, .int .i64 a0_1, .int .i64 a0_2, .int .i64 a0_3, .int .i64 a0_4, .int .i64 a0_5, .string a0_6, .bool a0_7, .int .i64 a0_8, .int .i64 a0_9, .int .i64 a0_10, .string a0_11, .string a0_12, .int .i64 a0_13, .int .i64 a0_14, .int .i64 a0_15, .bool a0_16]) (t := 45) ?hr ?_; (case hd => rfl); (case hg => rfl); (case hr => first | (go_simp; done) | (go_simp; rfl)); intro gb405 hg w7 hbox hb; have n0_ := A0m (below_step (by repeat (first | (with_reducible first | exact HB.out | apply bA | apply bN | apply bD) | exact HB.out)) hb); have n1_ := A0m (hbox); have n2_ := A0m ((by rw [hg]; exact (below_size (by repeat (first | (with_reducible first | exact HB.out | apply bA | apply bN | apply bD) | exact HB.out))) : w.heap.size ≤ gb405)); have n3_ := A0m ((by rw [hg]; exact (below_size (by repeat (first | (with_reducible first | exact HB.out | apply bA | apply bN | apply bD) | exact HB.out))) : w.heap.size ≤ gb405)); clear HB; have HB := n0_; have BK405 := n1_; have GW405 := n2_; have GE405 := n3_; clear n0_ n1_ n2_ n3_; clear hb hbox hg; have hcz8_7 : w7.cell? ⟨gb405, 7, none⟩ = some (.bool a0_7) := (kC BK405.out 7).trans rfl; have hcz8_8 : w7.cell? ⟨gb405, 8, none⟩ = some (.int .i64 a0_8) := (kC BK405.out 8).trans rfl; have hcz8_9 : w7.cell? ⟨gb405, 9, none⟩ = some (.int .i64 a0_9) := (kC BK405.out 9).trans rfl; have hcz8_10 : w7.cell? ⟨gb405, 10, none⟩ = some (.int .i64 a0_10) := (kC BK405.out 10).trans rfl; have hcz8_16 : w7.cell? ⟨gb405, 16, none⟩ = some (.bool a0_16) := (kC BK405.out 16).trans rfl; have hfz8_7 := kF BK405.out 7; have hfz8_8 := kF BK405.out 8; have hfz8_9 := kF BK405.out 9; have hfz8_10 := kF BK405.out 10; have hfz8_16 := kF BK405.out 16))
   go_ret2
   exact ⟨by first | rfl | (simp [errW_none, errW_some] <;> rfl) | (simp [*, errW_none, errW_some] <;> rfl), by repeat (first | (with_reducible first | exact HB.out | apply bA | apply bN | apply bD | refine bS ?_ GE405.out) | exact HB.out)⟩
  ·rw [if_neg c6] at H
   have c6b0 : (a1.toList == ([114, 97, 116, 101] : List UInt8)) = false := beq_eq_false_iff_ne.mpr c6
   have c6b1 : (a1.toList != ([114, 97, 116, 101] : List UInt8)) = true := bne_iff_ne.mpr c6
   by_cases c9 : a1.toList = ([115, 117, 112, 112, 108, 121] : List UInt8)
   ·rw [if_pos c9] at H
    have c9b0 : (a1.toList == ([115, 117, 112, 112, 108, 121] : List UInt8)) = true := beq_iff_eq.mpr c9
    have c9b1 : (a1.toList != ([115, 117, 112, 112, 108, 121] : List UInt8)) = false := bne_eq_false_iff_eq.mpr c9
    clear c9
    simp only [Option.some.injEq, Prod.mk.injEq] at H
    obtain ⟨rfl, rfl⟩ := H
    go_enter Tryz.func31, Tryz.ntmps31
    go_wp2_with (first | ((first | (with_reducible refine gate_dst (N := 26) rfl ?_)); (try (refine gate_guard (by rfl) ?_; dsimp only)); apply RowTake.wpl_row (ty := 45) (hu := Tryz.underlying45) (hd := rfl); (case hgd => rfl); (case ho => rfl); (case hx => rfl); (case hg => repeat (first | exact Aside0.out (by with_reducible assumption) | refine kN ?_ _ | refine kD ?_ | refine kA ?_ _)); (case hi => kernel_rfl)) | ((with_reducible refine gate_dst (N := 2) rfl ?_); refine box_event ?hg (N := 2) ?hd (cs := #[.int .i64 a0_0, .int .i64 a0_1, .int .i64 a0_2, .int .i64 a0_3, .int .i64 a0_4, .int .i64 a0_5, .string a0_6, .bool a0_7, .int .i64 a0_8, .int .i64 a0_9, .int .i64 a0_10, .string a0_11, .string a0_12, .int .i64 a0_13, .int .i64 a0_14, .int .i64 a0_15, .bool a0_16]) (t := 45) ?hr ?_; (case hd => rfl); (case hg => rfl); (case hr => first | (go_simp; done) | (go_simp; rfl)); intro gb405 hg w10 hbox hb; have n0_ := A0m (below_step (by repeat (first | (with_reducible first | exact HB.out | apply bA | apply bN | apply bD) | exact HB.out)) hb); have n1_ := A0m (hbox); have n2_ := A0m ((by rw [hg]; exact (below_size (by repeat (first | (with_reducible first | exact HB.out | apply bA | apply bN | apply bD) | exact HB.out))) : w.heap.size ≤ gb405)); have n3_ := A0m ((by rw [hg]; exact (below_size (by repeat (first | (with_reducible first | exact HB.out | apply bA | apply bN | apply bD) | exact HB.out))) : w.heap.size ≤ gb405)); clear HB; have HB := n0_; have BK405 := n1_; have GW405 := n2_; have GE405 := n3_; clear n0_ n1_ n2_ n3_; clear hb hbox hg; have hcz11_7 : w10.cell? ⟨gb405, 7, none⟩ = some (.bool a0_7) := (kC BK405.out 7).trans rfl; have hcz11_8 : w10.cell? ⟨gb405, 8, none⟩ = some (.int .i64 a0_8) := (kC BK405.out 8).trans rfl; have hcz11_9 : w10.cell? ⟨gb405, 9, none⟩ = some (.int .i64 a0_9) := (kC BK405.out 9).trans rfl; have hcz11_10 : w10.cell? ⟨gb405, 10, none⟩ = some (.int .i64 a0_10) := (kC BK405.out 10).trans rfl; have hcz11_16 : w10.cell? ⟨gb405, 16, none⟩ = some (.bool a0_16) := (kC BK405.out 16).trans rfl; have hfz11_7 := kF BK405.out 7; have hfz11_8 := kF BK405.out 8; have hfz11_9 := kF BK405.out 9; have hfz11_10 := kF BK405.out 10; have hfz11_16 := kF BK405.out 16))
    go_ret2
    exact ⟨by first | rfl | (simp [errW_none, errW_some] <;> rfl) | (simp [*, errW_none, errW_some] <;> rfl), by repeat (first | (with_reducible first | exact HB.out | apply bA | apply bN | apply bD | refine bS ?_ GE405.out) | exact HB.out)⟩
   ·rw [if_neg c9] at H
    have c9b0 : (a1.toList == ([115, 117, 112, 112, 108, 121] : List UInt8)) = false := beq_eq_false_iff_ne.mpr c9
    have c9b1 : (a1.toList != ([115, 117, 112, 112, 108, 121] : List UInt8)) = true := bne_iff_ne.mpr c9
    by_cases c12 : a1.toList = ([115, 97, 108, 101] : List UInt8)
    ·rw [if_pos c12] at H
     have c12b0 : (a1.toList == ([115, 97, 108, 101] : List UInt8)) = true := beq_iff_eq.mpr c12
     have c12b1 : (a1.toList != ([115, 97, 108, 101] : List UInt8)) = false := bne_eq_false_iff_eq.mpr c12
     clear c12
     replace H := Option.bind_eq_some_iff.mp H
     obtain ⟨t406, A130, H⟩ := H
     replace H : (some (t406, true)) = some (r1, r2) := H
     have A13 := A0m A130
     clear A130
     simp only [Option.some.injEq, Prod.mk.injEq] at H
     obtain ⟨rfl, rfl⟩ := H
     go_enter Tryz.func31, Tryz.ntmps31
     go_wp2_with (first | ((first | (with_reducible refine gate_dst (N := 26) rfl ?_)); (try (refine gate_guard (by rfl) ?_; dsimp only)); apply RowTake.wpl_row (ty := 45) (hu := Tryz.underlying45) (hd := rfl); (case hgd => rfl); (case ho => rfl); (case hx => rfl); (case hg => repeat (first | exact Aside0.out (by with_reducible assumption) | refine kN ?_ _ | refine kD ?_ | refine kA ?_ _)); (case hi => kernel_rfl)) | ((with_reducible refine gate_dst (N := 2) rfl ?_); refine box_event ?hg (N := 2) ?hd (cs := #[.int .i64 a0_0, .int .i64 a0_1, .int .i64 a0_2, .int .i64 a0_3, .int .i64 a0_4, .int .i64 a0_5, .string a0_6, .bool a0_7, .int .i64 a0_8, .int .i64 a0_9, .int .i64 a0_10, .string a0_11, .string a0_12, .int .i64 a0_13, .int .i64 a0_14, .int .i64 a0_15, .bool a0_16]) (t := 45) ?hr ?_; (case hd => rfl); (case hg => rfl); (case hr => first | (go_simp; done) | (go_simp; rfl)); intro gb405 hg w14 hbox hb; have n0_ := A0m (below_step (by repeat (first | (with_reducible first | exact HB.out | apply bA | apply bN | apply bD) | exact HB.out)) hb); have n1_ := A0m (hbox); have n2_ := A0m ((by rw [hg]; exact (below_size (by repeat (first | (with_reducible first | exact HB.out | apply bA | apply bN | apply bD) | exact HB.out))) : w.heap.size ≤ gb405)); have n3_ := A0m ((by rw [hg]; exact (below_size (by repeat (first | (with_reducible first | exact HB.out | apply bA | apply bN | apply bD) | exact HB.out))) : w.heap.size ≤ gb405)); clear HB; have HB := n0_; have BK405 := n1_; have GW405 := n2_; have GE405 := n3_; clear n0_ n1_ n2_ n3_; clear hb hbox hg; have hcz15_7 : w14.cell? ⟨gb405, 7, none⟩ = some (.bool a0_7) := (kC BK405.out 7).trans rfl; have hcz15_8 : w14.cell? ⟨gb405, 8, none⟩ = some (.int .i64 a0_8) := (kC BK405.out 8).trans rfl; have hcz15_9 : w14.cell? ⟨gb405, 9, none⟩ = some (.int .i64 a0_9) := (kC BK405.out 9).trans rfl; have hcz15_10 : w14.cell? ⟨gb405, 10, none⟩ = some (.int .i64 a0_10) := (kC BK405.out 10).trans rfl; have hcz15_16 : w14.cell? ⟨gb405, 16, none⟩ = some (.bool a0_16) := (kC BK405.out 16).trans rfl; have hfz15_7 := kF BK405.out 7; have hfz15_8 := kF BK405.out 8; have hfz15_9 := kF BK405.out 9; have hfz15_10 := kF BK405.out 10; have hfz15_16 := kF BK405.out 16) | ((with_reducible refine gate_callee (f := 67) rfl ?_); refine goesL_ (some 23) rfl rfl Tryz.func67 (by kernel_rfl) rfl #[.bool a0_7] rfl (by (try simp only [List.map_toArray, List.map_cons, List.map_nil]); first | done | rfl | (simp only [List.length_drop, List.length_take]; rfl)) ?_; (with_reducible refine (octroiref25_one.calls a0_7 t406 _ A13.out).mono ?_); rintro e w' ⟨rfl, ⟨nd, rfl⟩⟩; refine ⟨_, rfl, ?_⟩))
     go_ret2
     exact ⟨by first | rfl | (simp [errW_none, errW_some] <;> rfl) | (simp [*, errW_none, errW_some] <;> rfl), by repeat (first | (with_reducible first | exact HB.out | apply bA | apply bN | apply bD | refine bS ?_ GE405.out) | exact HB.out)⟩
    ·rw [if_neg c12] at H
     have c12b0 : (a1.toList == ([115, 97, 108, 101] : List UInt8)) = false := beq_eq_false_iff_ne.mpr c12
     have c12b1 : (a1.toList != ([115, 97, 108, 101] : List UInt8)) = true := bne_iff_ne.mpr c12
     by_cases c16 : a1.toList = ([108, 97, 116, 101] : List UInt8)
     ·rw [if_pos c16] at H
      have c16b0 : (a1.toList == ([108, 97, 116, 101] : List UInt8)) = true := beq_iff_eq.mpr c16
      have c16b1 : (a1.toList != ([108, 97, 116, 101] : List UInt8)) = false := bne_eq_false_iff_eq.mpr c16
      clear c16
      replace H := Option.bind_eq_some_iff.mp H
      obtain ⟨t407, A170, H⟩ := H
      replace H : ((octroiref25_one.f t407).bind fun t408 => (some (t408, true))) = some (r1, r2) := H
      have A17 := A0m A170
      clear A170
      replace H := Option.bind_eq_some_iff.mp H
      obtain ⟨t408, A180, H⟩ := H
      replace H : (some (t408, true)) = some (r1, r2) := H
      have A18 := A0m A180
      clear A180
      simp only [Option.some.injEq, Prod.mk.injEq] at H
      obtain ⟨rfl, rfl⟩ := H
      go_enter Tryz.func31, Tryz.ntmps31
      go_wp2_with (first | ((first | (with_reducible refine gate_dst (N := 26) rfl ?_)); (try (refine gate_guard (by rfl) ?_; dsimp only)); apply RowTake.wpl_row (ty := 45) (hu := Tryz.underlying45) (hd := rfl); (case hgd => rfl); (case ho => rfl); (case hx => rfl); (case hg => repeat (first | exact Aside0.out (by with_reducible assumption) | refine kN ?_ _ | refine kD ?_ | refine kA ?_ _)); (case hi => kernel_rfl)) | ((with_reducible refine gate_dst (N := 2) rfl ?_); refine box_event ?hg (N := 2) ?hd (cs := #[.int .i64 a0_0, .int .i64 a0_1, .int .i64 a0_2, .int .i64 a0_3, .int .i64 a0_4, .int .i64 a0_5, .string a0_6, .bool a0_7, .int .i64 a0_8, .int .i64 a0_9, .int .i64 a0_10, .string a0_11, .string a0_12, .int .i64 a0_13, .int .i64 a0_14, .int .i64 a0_15, .bool a0_16]) (t := 45) ?hr ?_; (case hd => rfl); (case hg => rfl); (case hr => first | (go_simp; done) | (go_simp; rfl)); intro gb405 hg w19 hbox hb; have n0_ := A0m (below_step (by repeat (first | (with_reducible first | exact HB.out | apply bA | apply bN | apply bD) | exact HB.out)) hb); have n1_ := A0m (hbox); have n2_ := A0m ((by rw [hg]; exact (below_size (by repeat (first | (with_reducible first | exact HB.out | apply bA | apply bN | apply bD) | exact HB.out))) : w.heap.size ≤ gb405)); have n3_ := A0m ((by rw [hg]; exact (below_size (by repeat (first | (with_reducible first | exact HB.out | apply bA | apply bN | apply bD) | exact HB.out))) : w.heap.size ≤ gb405)); clear HB; have HB := n0_; have BK405 := n1_; have GW405 := n2_; have GE405 := n3_; clear n0_ n1_ n2_ n3_; clear hb hbox hg; have hcz20_7 : w19.cell? ⟨gb405, 7, none⟩ = some (.bool a0_7) := (kC BK405.out 7).trans rfl; have hcz20_8 : w19.cell? ⟨gb405, 8, none⟩ = some (.int .i64 a0_8) := (kC BK405.out 8).trans rfl; have hcz20_9 : w19.cell? ⟨gb405, 9, none⟩ = some (.int .i64 a0_9) := (kC BK405.out 9).trans rfl; have hcz20_10 : w19.cell? ⟨gb405, 10, none⟩ = some (.int .i64 a0_10) := (kC BK405.out 10).trans rfl; have hcz20_16 : w19.cell? ⟨gb405, 16, none⟩ = some (.bool a0_16) := (kC BK405.out 16).trans rfl; have hfz20_7 := kF BK405.out 7; have hfz20_8 := kF BK405.out 8; have hfz20_9 := kF BK405.out 9; have hfz20_10 := kF BK405.out 10; have hfz20_16 := kF BK405.out 16) | ((with_reducible refine gate_callee (f := 68) rfl ?_); refine goesL_ (some 27) rfl rfl Tryz.func68 (by kernel_rfl) rfl #[.agg #[.int .i64 a0_0, .int .i64 a0_1, .int .i64 a0_2, .int .i64 a0_3, .int .i64 a0_4, .int .i64 a0_5, .string a0_6, .bool a0_7, .int .i64 a0_8, .int .i64 a0_9, .int .i64 a0_10, .string a0_11, .string a0_12, .int .i64 a0_13, .int .i64 a0_14, .int .i64 a0_15, .bool a0_16]] rfl (by (try simp only [List.map_toArray, List.map_cons, List.map_nil]); first | done | rfl | (simp only [List.length_drop, List.length_take]; rfl)) ?_; (with_reducible refine (octroiref25_Late.calls a0_0 a0_1 a0_2 a0_3 a0_4 a0_5 a0_6 a0_7 a0_8 a0_9 a0_10 a0_11 a0_12 a0_13 a0_14 a0_15 a0_16 t407 _ A17.out).mono ?_); rintro e w21 ⟨rfl, hb⟩; refine ⟨_, rfl, ?_⟩; have n0_ := A0m (blk_below (g := gb405) (o := .cells #[.int .i64 a0_0, .int .i64 a0_1, .int .i64 a0_2, .int .i64 a0_3, .int .i64 a0_4, .int .i64 a0_5, .string a0_6, .bool a0_7, .int .i64 a0_8, .int .i64 a0_9, .int .i64 a0_10, .string a0_11, .string a0_12, .int .i64 a0_13, .int .i64 a0_14, .int .i64 a0_15, .bool a0_16] 45 (0, 0)) (by (with_reducible repeat (first | refine kN ?_ _ | refine kD ?_ | refine kA ?_ _)); exact BK405.out) hb); have n1_ := A0m (below_step (by repeat (first | (with_reducible first | exact HB.out | apply bA | apply bN | apply bD | refine bS ?_ GE405.out) | exact HB.out)) hb); clear BK405; clear HB; have BK405 := n0_; have HB := n1_; clear n0_ n1_; (try clear hb); (try clear hb2); (try clear hk); (try clear hi)) | ((with_reducible refine gate_callee (f := 67) rfl ?_); refine goesL_ (some 28) rfl rfl Tryz.func67 (by kernel_rfl) rfl #[.bool t407] rfl (by (try simp only [List.map_toArray, List.map_cons, List.map_nil]); first | done | rfl | (simp only [List.length_drop, List.length_take]; rfl)) ?_; (with_reducible refine (octroiref25_one.calls t407 t408 _ A18.out).mono ?_); rintro e w' ⟨rfl, ⟨nd, rfl⟩⟩; refine ⟨_, rfl, ?_⟩))
      go_ret2
      exact ⟨by first | rfl | (simp [errW_none, errW_some] <;> rfl) | (simp [*, errW_none, errW_some] <;> rfl), by repeat (first | (with_reducible first | exact HB.out | apply bA | apply bN | apply bD | refine bS ?_ GE405.out) | exact HB.out)⟩
     ·rw [if_neg c16] at H
      have c16b0 : (a1.toList == ([108, 97, 116, 101] : List UInt8)) = false := beq_eq_false_iff_ne.mpr c16
      have c16b1 : (a1.toList != ([108, 97, 116, 101] : List UInt8)) = true := bne_iff_ne.mpr c16
      by_cases c22 : a1.toList = ([109, 105, 120, 101, 100] : List UInt8)
      ·rw [if_pos c22] at H
       have c22b0 : (a1.toList == ([109, 105, 120, 101, 100] : List UInt8)) = true := beq_iff_eq.mpr c22
       have c22b1 : (a1.toList != ([109, 105, 120, 101, 100] : List UInt8)) = false := bne_eq_false_iff_eq.mpr c22
       clear c22
       replace H := Option.bind_eq_some_iff.mp H
       obtain ⟨t409, A230, H⟩ := H
       replace H : (some (t409, true)) = some (r1, r2) := H
       have A23 := A0m A230
       clear A230
       simp only [Option.some.injEq, Prod.mk.injEq] at H
       obtain ⟨rfl, rfl⟩ := H
       go_enter Tryz.func31, Tryz.ntmps31
       go_wp2_with (first | ((first | (with_reducible refine gate_dst (N := 26) rfl ?_)); (try (refine gate_guard (by rfl) ?_; dsimp only)); apply RowTake.wpl_row (ty := 45) (hu := Tryz.underlying45) (hd := rfl); (case hgd => rfl); (case ho => rfl); (case hx => rfl); (case hg => repeat (first | exact Aside0.out (by with_reducible assumption) | refine kN ?_ _ | refine kD ?_ | refine kA ?_ _)); (case hi => kernel_rfl)) | ((with_reducible refine gate_dst (N := 2) rfl ?_); refine box_event ?hg (N := 2) ?hd (cs := #[.int .i64 a0_0, .int .i64 a0_1, .int .i64 a0_2, .int .i64 a0_3, .int .i64 a0_4, .int .i64 a0_5, .string a0_6, .bool a0_7, .int .i64 a0_8, .int .i64 a0_9, .int .i64 a0_10, .string a0_11, .string a0_12, .int .i64 a0_13, .int .i64 a0_14, .int .i64 a0_15, .bool a0_16]) (t := 45) ?hr ?_; (case hd => rfl); (case hg => rfl); (case hr => first | (go_simp; done) | (go_simp; rfl)); intro gb405 hg w24 hbox hb; have n0_ := A0m (below_step (by repeat (first | (with_reducible first | exact HB.out | apply bA | apply bN | apply bD) | exact HB.out)) hb); have n1_ := A0m (hbox); have n2_ := A0m ((by rw [hg]; exact (below_size (by repeat (first | (with_reducible first | exact HB.out | apply bA | apply bN | apply bD) | exact HB.out))) : w.heap.size ≤ gb405)); have n3_ := A0m ((by rw [hg]; exact (below_size (by repeat (first | (with_reducible first | exact HB.out | apply bA | apply bN | apply bD) | exact HB.out))) : w.heap.size ≤ gb405)); clear HB; have HB := n0_; have BK405 := n1_; have GW405 := n2_; have GE405 := n3_; clear n0_ n1_ n2_ n3_; clear hb hbox hg; have hcz25_7 : w24.cell? ⟨gb405, 7, none⟩ = some (.bool a0_7) := (kC BK405.out 7).trans rfl; have hcz25_8 : w24.cell? ⟨gb405, 8, none⟩ = some (.int .i64 a0_8) := (kC BK405.out 8).trans rfl; have hcz25_9 : w24.cell? ⟨gb405, 9, none⟩ = some (.int .i64 a0_9) := (kC BK405.out 9).trans rfl; have hcz25_10 : w24.cell? ⟨gb405, 10, none⟩ = some (.int .i64 a0_10) := (kC BK405.out 10).trans rfl; have hcz25_16 : w24.cell? ⟨gb405, 16, none⟩ = some (.bool a0_16) := (kC BK405.out 16).trans rfl; have hfz25_7 := kF BK405.out 7; have hfz25_8 := kF BK405.out 8; have hfz25_9 := kF BK405.out 9; have hfz25_10 := kF BK405.out 10; have hfz25_16 := kF BK405.out 16) | ((with_reducible refine gate_callee (f := 67) rfl ?_); refine goesL_ (some 33) rfl rfl Tryz.func67 (by kernel_rfl) rfl #[.bool a0_16] rfl (by (try simp only [List.map_toArray, List.map_cons, List.map_nil]); first | done | rfl | (simp only [List.length_drop, List.length_take]; rfl)) ?_; (with_reducible refine (octroiref25_one.calls a0_16 t409 _ A23.out).mono ?_); rintro e w' ⟨rfl, ⟨nd, rfl⟩⟩; refine ⟨_, rfl, ?_⟩))
       go_ret2
       exact ⟨by first | rfl | (simp [errW_none, errW_some] <;> rfl) | (simp [*, errW_none, errW_some] <;> rfl), by repeat (first | (with_reducible first | exact HB.out | apply bA | apply bN | apply bD | refine bS ?_ GE405.out) | exact HB.out)⟩
      ·rw [if_neg c22] at H
       have c22b0 : (a1.toList == ([109, 105, 120, 101, 100] : List UInt8)) = false := beq_eq_false_iff_ne.mpr c22
       have c22b1 : (a1.toList != ([109, 105, 120, 101, 100] : List UInt8)) = true := bne_iff_ne.mpr c22
       simp only [Option.some.injEq, Prod.mk.injEq] at H
       obtain ⟨rfl, rfl⟩ := H
       go_enter Tryz.func31, Tryz.ntmps31
       go_wp2_with (first | ((first | (with_reducible refine gate_dst (N := 26) rfl ?_)); (try (refine gate_guard (by rfl) ?_; dsimp only)); apply RowTake.wpl_row (ty := 45) (hu := Tryz.underlying45) (hd := rfl); (case hgd => rfl); (case ho => rfl); (case hx => rfl); (case hg => repeat (first | exact Aside0.out (by with_reducible assumption) | refine kN ?_ _ | refine kD ?_ | refine kA ?_ _)); (case hi => kernel_rfl)) | ((with_reducible refine gate_dst (N := 2) rfl ?_); refine box_event ?hg (N := 2) ?hd (cs := #[.int .i64 a0_0, .int .i64 a0_1, .int .i64 a0_2, .int .i64 a0_3, .int .i64 a0_4, .int .i64 a0_5, .string a0_6, .bool a0_7, .int .i64 a0_8, .int .i64 a0_9, .int .i64 a0_10, .string a0_11, .string a0_12, .int .i64 a0_13, .int .i64 a0_14, .int .i64 a0_15, .bool a0_16]) (t := 45) ?hr ?_; (case hd => rfl); (case hg => rfl); (case hr => first | (go_simp; done) | (go_simp; rfl)); intro gb405 hg w26 hbox hb; have n0_ := A0m (below_step (by repeat (first | (with_reducible first | exact HB.out | apply bA | apply bN | apply bD) | exact HB.out)) hb); have n1_ := A0m (hbox); have n2_ := A0m ((by rw [hg]; exact (below_size (by repeat (first | (with_reducible first | exact HB.out | apply bA | apply bN | apply bD) | exact HB.out))) : w.heap.size ≤ gb405)); have n3_ := A0m ((by rw [hg]; exact (below_size (by repeat (first | (with_reducible first | exact HB.out | apply bA | apply bN | apply bD) | exact HB.out))) : w.heap.size ≤ gb405)); clear HB; have HB := n0_; have BK405 := n1_; have GW405 := n2_; have GE405 := n3_; clear n0_ n1_ n2_ n3_; clear hb hbox hg))
       go_ret2
       exact ⟨by first | rfl | (simp [errW_none, errW_some] <;> rfl) | (simp [*, errW_none, errW_some] <;> rfl), by repeat (first | (with_reducible first | exact HB.out | apply bA | apply bN | apply bD | refine bS ?_ GE405.out) | exact HB.out)⟩

-- NOT PRINTED: function 14 (octroiref34_Picks)

/-! ### octroiref18_Output: function 171 -/
def octroiref18_Output.f (a0 : Int) : Option (Bool) := if a0 = 1 then (some true) else (if a0 = 3 then (some true) else (if a0 = 9 then (some true) else (if a0 ≥ 12 then (some (decide (a0 ≤ 14))) else (some false))))
set_option maxHeartbeats 8000000 in
set_option maxRecDepth 100000 in
theorem octroiref18_Output.calls (a0 : Int) (r : Bool) (w : World) (h : octroiref18_Output.f a0 = some r) :
    Calls Tryz.prog 171 #[.int .i64 a0] w fun e w' => e = .returned (.bool r) ∧ Drawn0 w w' := by
  have H : (if a0 = 1 then (some true) else (if a0 = 3 then (some true) else (if a0 = 9 then (some true) else (if a0 ≥ 12 then (some (decide (a0 ≤ 14))) else (some false))))) = some r := h
  clear h
  by_cases c2 : a0 = 1
  · rw [if_pos c2] at H
    have c2b0 : (a0 == 1) = true := beq_iff_eq.mpr c2
    have c2b1 : (a0 != 1) = false := bne_eq_false_iff_eq.mpr c2
    clear c2
    obtain rfl := Option.some.inj H
    go_enter Tryz.func171, Tryz.ntmps171
    go_wp2
    go_ret
    exact ⟨by first | rfl | (simp; done) | (simp [*]; done), by repeat (first | exact Drawn0.refl _ | apply Drawn0.step)⟩
  · rw [if_neg c2] at H
    have c2b0 : (a0 == 1) = false := beq_eq_false_iff_ne.mpr c2
    have c2b1 : (a0 != 1) = true := bne_iff_ne.mpr c2
    by_cases c3 : a0 = 3
    · rw [if_pos c3] at H
      have c3b0 : (a0 == 3) = true := beq_iff_eq.mpr c3
      have c3b1 : (a0 != 3) = false := bne_eq_false_iff_eq.mpr c3
      clear c3
      obtain rfl := Option.some.inj H
      go_enter Tryz.func171, Tryz.ntmps171
      go_wp2
      go_ret
      exact ⟨by first | rfl | (simp; done) | (simp [*]; done), by repeat (first | exact Drawn0.refl _ | apply Drawn0.step)⟩
    · rw [if_neg c3] at H
      have c3b0 : (a0 == 3) = false := beq_eq_false_iff_ne.mpr c3
      have c3b1 : (a0 != 3) = true := bne_iff_ne.mpr c3
      by_cases c4 : a0 = 9
      · rw [if_pos c4] at H
        have c4b0 : (a0 == 9) = true := beq_iff_eq.mpr c4
        have c4b1 : (a0 != 9) = false := bne_eq_false_iff_eq.mpr c4
        clear c4
        obtain rfl := Option.some.inj H
        go_enter Tryz.func171, Tryz.ntmps171
        go_wp2
        go_ret
        exact ⟨by first | rfl | (simp; done) | (simp [*]; done), by repeat (first | exact Drawn0.refl _ | apply Drawn0.step)⟩
      · rw [if_neg c4] at H
        have c4b0 : (a0 == 9) = false := beq_eq_false_iff_ne.mpr c4
        have c4b1 : (a0 != 9) = true := bne_iff_ne.mpr c4
        by_cases c5 : a0 ≥ 12
        · rw [if_pos c5] at H
          have c5b0 : decide (12 ≤ a0) = true := decide_eq_true c5
          clear c5
          obtain rfl := Option.some.inj H
          go_enter Tryz.func171, Tryz.ntmps171
          go_wp2
          go_ret
          exact ⟨by first | rfl | (simp; done) | (simp [*]; done), by repeat (first | exact Drawn0.refl _ | apply Drawn0.step)⟩
        · rw [if_neg c5] at H
          have c5b0 : decide (12 ≤ a0) = false := decide_eq_false c5
          clear c5
          obtain rfl := Option.some.inj H
          go_enter Tryz.func171, Tryz.ntmps171
          go_wp2
          go_ret
          exact ⟨by first | rfl | (simp; done) | (simp [*]; done), by repeat (first | exact Drawn0.refl _ | apply Drawn0.step)⟩

/-! ### octroiref18_Deducts: function 172 -/
def octroiref18_Deducts.f (a0 : Int) : Option (Bool) := if a0 ≥ 11 then (some (decide (a0 ≤ 14))) else (some false)
set_option maxHeartbeats 8000000 in
set_option maxRecDepth 100000 in
theorem octroiref18_Deducts.calls (a0 : Int) (r : Bool) (w : World) (h : octroiref18_Deducts.f a0 = some r) :
    Calls Tryz.prog 172 #[.int .i64 a0] w fun e w' => e = .returned (.bool r) ∧ Drawn0 w w' := by
  have H : (if a0 ≥ 11 then (some (decide (a0 ≤ 14))) else (some false)) = some r := h
  clear h
  by_cases c2 : a0 ≥ 11
  · rw [if_pos c2] at H
    have c2b0 : decide (11 ≤ a0) = true := decide_eq_true c2
    clear c2
    obtain rfl := Option.some.inj H
    go_enter Tryz.func172, Tryz.ntmps172
    go_wp2
    go_ret
    exact ⟨by first | rfl | (simp; done) | (simp [*]; done), by repeat (first | exact Drawn0.refl _ | apply Drawn0.step)⟩
  · rw [if_neg c2] at H
    have c2b0 : decide (11 ≤ a0) = false := decide_eq_false c2
    clear c2
    obtain rfl := Option.some.inj H
    go_enter Tryz.func172, Tryz.ntmps172
    go_wp2
    go_ret
    exact ⟨by first | rfl | (simp; done) | (simp [*]; done), by repeat (first | exact Drawn0.refl _ | apply Drawn0.step)⟩

/-! ### octroiref25_Owed: function 140 -/
def octroiref25_Owed.f (a0_0 a0_1 a0_2 a0_3 a0_4 a0_5 : Int) (a0_6 : ByteArray) (a0_7 : Bool) (a0_8 a0_9 a0_10 : Int) (a0_11 a0_12 : ByteArray) (a0_13 a0_14 a0_15 : Int) (a0_16 : Bool) : Option (Int) := (octroiref18_Output.f a0_9).bind fun t429 => (if t429 = true then (if a0_7 = true then (some a0_14) else ((octroiref18_Deducts.f a0_9).bind fun t430 => (if t430 = true then (some a0_14) else (some 0)))) else (some 0))
set_option maxHeartbeats 8000000 in
set_option maxRecDepth 100000 in
theorem octroiref25_Owed.calls (a0_0 a0_1 a0_2 a0_3 a0_4 a0_5 : Int) (a0_6 : ByteArray) (a0_7 : Bool) (a0_8 a0_9 a0_10 : Int) (a0_11 a0_12 : ByteArray) (a0_13 a0_14 a0_15 : Int) (a0_16 : Bool) (r : Int) (w : World) (h : octroiref25_Owed.f a0_0 a0_1 a0_2 a0_3 a0_4 a0_5 a0_6 a0_7 a0_8 a0_9 a0_10 a0_11 a0_12 a0_13 a0_14 a0_15 a0_16 = some r) :
  Calls Tryz.prog 140 #[.agg #[.int .i64 a0_0, .int .i64 a0_1, .int .i64 a0_2, .int .i64 a0_3, .int .i64 a0_4, .int .i64 a0_5, .string a0_6, .bool a0_7, .int .i64 a0_8, .int .i64 a0_9, .int .i64 a0_10, .string a0_11, .string a0_12, .int .i64 a0_13, .int .i64 a0_14, .int .i64 a0_15, .bool a0_16]] w fun e w' => e = .returned (.int .i64 r) ∧ Below w.heap.size w w' := by
 have hu45 := Tryz.underlying45
 have HB := A0m (Below.refl w.heap.size w)
 have H : ((octroiref18_Output.f a0_9).bind fun t429 => (if t429 = true then (if a0_7 = true then (some a0_14) else ((octroiref18_Deducts.f a0_9).bind fun t430 => (if t430 = true then (some a0_14) else (some 0)))) else (some 0))) = some r := h
 clear h
 replace H := Option.bind_eq_some_iff.mp H
 obtain ⟨t429, A20, H⟩ := H
 replace H : (if t429 = true then (if a0_7 = true then (some a0_14) else ((octroiref18_Deducts.f a0_9).bind fun t430 => (if t430 = true then (some a0_14) else (some 0)))) else (some 0)) = some r := H
 have A2 := A0m A20
 clear A20
 by_cases c3 : t429 = true
 ·subst c3
  have H1 : (if a0_7 = true then (some a0_14) else ((octroiref18_Deducts.f a0_9).bind fun t430 => (if t430 = true then (some a0_14) else (some 0)))) = some r := by rw [if_pos rfl] at H; exact H
  clear H
  have H := H1
  clear H1
  by_cases c4 : a0_7 = true
  ·subst c4
   have H1 : (some a0_14) = some r := by rw [if_pos rfl] at H; exact H
   clear H
   have H := H1
   clear H1
   obtain rfl := Option.some.inj H
   go_enter Tryz.func140, Tryz.ntmps140
   go_wp2_with (first | ((with_reducible refine gate_dst (N := 1) rfl ?_); refine box_event ?hg (N := 1) ?hd (cs := #[.int .i64 a0_0, .int .i64 a0_1, .int .i64 a0_2, .int .i64 a0_3, .int .i64 a0_4, .int .i64 a0_5, .string a0_6, .bool true, .int .i64 a0_8, .int .i64 a0_9, .int .i64 a0_10, .string a0_11, .string a0_12, .int .i64 a0_13, .int .i64 a0_14, .int .i64 a0_15, .bool a0_16]) (t := 45) ?hr ?_; (case hd => rfl); (case hg => rfl); (case hr => first | (go_simp; done) | (go_simp; rfl)); intro gb428 hg w5 hbox hb; have n0_ := A0m (below_step (by repeat (first | (with_reducible first | exact HB.out | apply bA | apply bN | apply bD) | exact HB.out)) hb); have n1_ := A0m (hbox); have n2_ := A0m ((by rw [hg]; exact (below_size (by repeat (first | (with_reducible first | exact HB.out | apply bA | apply bN | apply bD) | exact HB.out))) : w.heap.size ≤ gb428)); have n3_ := A0m ((by rw [hg]; exact (below_size (by repeat (first | (with_reducible first | exact HB.out | apply bA | apply bN | apply bD) | exact HB.out))) : w.heap.size ≤ gb428)); clear HB; have HB := n0_; have BK428 := n1_; have GW428 := n2_; have GE428 := n3_; clear n0_ n1_ n2_ n3_; clear hb hbox hg; have hcz6_0 : w5.cell? ⟨gb428, 0, none⟩ = some (.int .i64 a0_0) := (kC BK428.out 0).trans rfl; have hcz6_1 : w5.cell? ⟨gb428, 1, none⟩ = some (.int .i64 a0_1) := (kC BK428.out 1).trans rfl; have hcz6_2 : w5.cell? ⟨gb428, 2, none⟩ = some (.int .i64 a0_2) := (kC BK428.out 2).trans rfl; have hcz6_3 : w5.cell? ⟨gb428, 3, none⟩ = some (.int .i64 a0_3) := (kC BK428.out 3).trans rfl; have hcz6_4 : w5.cell? ⟨gb428, 4, none⟩ = some (.int .i64 a0_4) := (kC BK428.out 4).trans rfl; have hcz6_5 : w5.cell? ⟨gb428, 5, none⟩ = some (.int .i64 a0_5) := (kC BK428.out 5).trans rfl; have hcz6_6 : w5.cell? ⟨gb428, 6, none⟩ = some (.string a0_6) := (kC BK428.out 6).trans rfl; have hcz6_7 : w5.cell? ⟨gb428, 7, none⟩ = some (.bool true) := (kC BK428.out 7).trans rfl; have hcz6_8 : w5.cell? ⟨gb428, 8, none⟩ = some (.int .i64 a0_8) := (kC BK428.out 8).trans rfl; have hcz6_9 : w5.cell? ⟨gb428, 9, none⟩ = some (.int .i64 a0_9) := (kC BK428.out 9).trans rfl; have hcz6_10 : w5.cell? ⟨gb428, 10, none⟩ = some (.int .i64 a0_10) := (kC BK428.out 10).trans rfl; have hcz6_11 : w5.cell? ⟨gb428, 11, none⟩ = some (.string a0_11) := (kC BK428.out 11).trans rfl; have hcz6_12 : w5.cell? ⟨gb428, 12, none⟩ = some (.string a0_12) := (kC BK428.out 12).trans rfl; have hcz6_13 : w5.cell? ⟨gb428, 13, none⟩ = some (.int .i64 a0_13) := (kC BK428.out 13).trans rfl; have hcz6_14 : w5.cell? ⟨gb428, 14, none⟩ = some (.int .i64 a0_14) := (kC BK428.out 14).trans rfl; have hcz6_15 : w5.cell? ⟨gb428, 15, none⟩ = some (.int .i64 a0_15) := (kC BK428.out 15).trans rfl; have hcz6_16 : w5.cell? ⟨gb428, 16, none⟩ = some (.bool a0_16) := (kC BK428.out 16).trans rfl; have hfz6_0 := kF BK428.out 0; have hfz6_1 := kF BK428.out 1; have hfz6_2 := kF BK428.out 2; have hfz6_3 := kF BK428.out 3; have hfz6_4 := kF BK428.out 4; have hfz6_5 := kF BK428.out 5; have hfz6_6 := kF BK428.out 6; have hfz6_7 := kF BK428.out 7; have hfz6_8 := kF BK428.out 8; have hfz6_9 := kF BK428.out 9; have hfz6_10 := kF BK428.out 10; have hfz6_11 := kF BK428.out 11; have hfz6_12 := kF BK428.out 12; have hfz6_13 := kF BK428.out 13; have hfz6_14 := kF BK428.out 14; have hfz6_15 := kF BK428.out 15; have hfz6_16 := kF BK428.out 16) | ((with_reducible refine gate_callee (f := 171) rfl ?_); refine goesL_ (some 5) rfl rfl Tryz.func171 (by kernel_rfl) rfl #[.int .i64 a0_9] rfl (by (try simp only [List.map_toArray, List.map_cons, List.map_nil]); first | done | rfl | (simp only [List.length_drop, List.length_take]; rfl)) ?_; (with_reducible refine (octroiref18_Output.calls a0_9 true _ A2.out).mono ?_); rintro e w' ⟨rfl, ⟨nd, rfl⟩⟩; refine ⟨_, rfl, ?_⟩))
   go_ret
   exact ⟨by first | rfl | (simp [errW_none, errW_some] <;> rfl) | (simp [*, errW_none, errW_some] <;> rfl), by repeat (first | (with_reducible first | exact HB.out | apply bA | apply bN | apply bD | refine bS ?_ GE428.out) | exact HB.out)⟩
  ·replace c4 := Bool.eq_false_iff.mpr c4
   subst c4
   have H1 : ((octroiref18_Deducts.f a0_9).bind fun t430 => (if t430 = true then (some a0_14) else (some 0))) = some r := by rw [if_neg (show ¬ (false = true) by decide)] at H; exact H
   clear H
   have H := H1
   clear H1
   replace H := Option.bind_eq_some_iff.mp H
   obtain ⟨t430, A70, H⟩ := H
   replace H : (if t430 = true then (some a0_14) else (some 0)) = some r := H
   have A7 := A0m A70
   clear A70
   by_cases c8 : t430 = true
   ·subst c8
    have H1 : (some a0_14) = some r := by rw [if_pos rfl] at H; exact H
    clear H
    have H := H1
    clear H1
    obtain rfl := Option.some.inj H
    go_enter Tryz.func140, Tryz.ntmps140
    go_wp2_with (first | ((with_reducible refine gate_dst (N := 1) rfl ?_); refine box_event ?hg (N := 1) ?hd (cs := #[.int .i64 a0_0, .int .i64 a0_1, .int .i64 a0_2, .int .i64 a0_3, .int .i64 a0_4, .int .i64 a0_5, .string a0_6, .bool false, .int .i64 a0_8, .int .i64 a0_9, .int .i64 a0_10, .string a0_11, .string a0_12, .int .i64 a0_13, .int .i64 a0_14, .int .i64 a0_15, .bool a0_16]) (t := 45) ?hr ?_; (case hd => rfl); (case hg => rfl); (case hr => first | (go_simp; done) | (go_simp; rfl)); intro gb428 hg w9 hbox hb; have n0_ := A0m (below_step (by repeat (first | (with_reducible first | exact HB.out | apply bA | apply bN | apply bD) | exact HB.out)) hb); have n1_ := A0m (hbox); have n2_ := A0m ((by rw [hg]; exact (below_size (by repeat (first | (with_reducible first | exact HB.out | apply bA | apply bN | apply bD) | exact HB.out))) : w.heap.size ≤ gb428)); have n3_ := A0m ((by rw [hg]; exact (below_size (by repeat (first | (with_reducible first | exact HB.out | apply bA | apply bN | apply bD) | exact HB.out))) : w.heap.size ≤ gb428)); clear HB; have HB := n0_; have BK428 := n1_; have GW428 := n2_; have GE428 := n3_; clear n0_ n1_ n2_ n3_; clear hb hbox hg; have hcz10_0 : w9.cell? ⟨gb428, 0, none⟩ = some (.int .i64 a0_0) := (kC BK428.out 0).trans rfl; have hcz10_1 : w9.cell? ⟨gb428, 1, none⟩ = some (.int .i64 a0_1) := (kC BK428.out 1).trans rfl; have hcz10_2 : w9.cell? ⟨gb428, 2, none⟩ = some (.int .i64 a0_2) := (kC BK428.out 2).trans rfl; have hcz10_3 : w9.cell? ⟨gb428, 3, none⟩ = some (.int .i64 a0_3) := (kC BK428.out 3).trans rfl; have hcz10_4 : w9.cell? ⟨gb428, 4, none⟩ = some (.int .i64 a0_4) := (kC BK428.out 4).trans rfl; have hcz10_5 : w9.cell? ⟨gb428, 5, none⟩ = some (.int .i64 a0_5) := (kC BK428.out 5).trans rfl; have hcz10_6 : w9.cell? ⟨gb428, 6, none⟩ = some (.string a0_6) := (kC BK428.out 6).trans rfl; have hcz10_7 : w9.cell? ⟨gb428, 7, none⟩ = some (.bool false) := (kC BK428.out 7).trans rfl; have hcz10_8 : w9.cell? ⟨gb428, 8, none⟩ = some (.int .i64 a0_8) := (kC BK428.out 8).trans rfl; have hcz10_9 : w9.cell? ⟨gb428, 9, none⟩ = some (.int .i64 a0_9) := (kC BK428.out 9).trans rfl; have hcz10_10 : w9.cell? ⟨gb428, 10, none⟩ = some (.int .i64 a0_10) := (kC BK428.out 10).trans rfl; have hcz10_11 : w9.cell? ⟨gb428, 11, none⟩ = some (.string a0_11) := (kC BK428.out 11).trans rfl; have hcz10_12 : w9.cell? ⟨gb428, 12, none⟩ = some (.string a0_12) := (kC BK428.out 12).trans rfl; have hcz10_13 : w9.cell? ⟨gb428, 13, none⟩ = some (.int .i64 a0_13) := (kC BK428.out 13).trans rfl; have hcz10_14 : w9.cell? ⟨gb428, 14, none⟩ = some (.int .i64 a0_14) := (kC BK428.out 14).trans rfl; have hcz10_15 : w9.cell? ⟨gb428, 15, none⟩ = some (.int .i64 a0_15) := (kC BK428.out 15).trans rfl; have hcz10_16 : w9.cell? ⟨gb428, 16, none⟩ = some (.bool a0_16) := (kC BK428.out 16).trans rfl; have hfz10_0 := kF BK428.out 0; have hfz10_1 := kF BK428.out 1; have hfz10_2 := kF BK428.out 2; have hfz10_3 := kF BK428.out 3; have hfz10_4 := kF BK428.out 4; have hfz10_5 := kF BK428.out 5; have hfz10_6 := kF BK428.out 6; have hfz10_7 := kF BK428.out 7; have hfz10_8 := kF BK428.out 8; have hfz10_9 := kF BK428.out 9; have hfz10_10 := kF BK428.out 10; have hfz10_11 := kF BK428.out 11; have hfz10_12 := kF BK428.out 12; have hfz10_13 := kF BK428.out 13; have hfz10_14 := kF BK428.out 14; have hfz10_15 := kF BK428.out 15; have hfz10_16 := kF BK428.out 16) | ((with_reducible refine gate_callee (f := 171) rfl ?_); refine goesL_ (some 5) rfl rfl Tryz.func171 (by kernel_rfl) rfl #[.int .i64 a0_9] rfl (by (try simp only [List.map_toArray, List.map_cons, List.map_nil]); first | done | rfl | (simp only [List.length_drop, List.length_take]; rfl)) ?_; (with_reducible refine (octroiref18_Output.calls a0_9 true _ A2.out).mono ?_); rintro e w' ⟨rfl, ⟨nd, rfl⟩⟩; refine ⟨_, rfl, ?_⟩) | (go_at_call 172; (with_reducible refine (octroiref18_Deducts.calls a0_9 true _ A7.out).mono ?_); rintro e w' ⟨rfl, ⟨nd, rfl⟩⟩))
    go_ret
    exact ⟨by first | rfl | (simp [errW_none, errW_some] <;> rfl) | (simp [*, errW_none, errW_some] <;> rfl), by repeat (first | (with_reducible first | exact HB.out | apply bA | apply bN | apply bD | refine bS ?_ GE428.out) | exact HB.out)⟩
   ·replace c8 := Bool.eq_false_iff.mpr c8
    subst c8
    have H1 : (some 0) = some r := by rw [if_neg (show ¬ (false = true) by decide)] at H; exact H
    clear H
    have H := H1
    clear H1
    obtain rfl := Option.some.inj H
    go_enter Tryz.func140, Tryz.ntmps140
    go_wp2_with (first | ((with_reducible refine gate_dst (N := 1) rfl ?_); refine box_event ?hg (N := 1) ?hd (cs := #[.int .i64 a0_0, .int .i64 a0_1, .int .i64 a0_2, .int .i64 a0_3, .int .i64 a0_4, .int .i64 a0_5, .string a0_6, .bool false, .int .i64 a0_8, .int .i64 a0_9, .int .i64 a0_10, .string a0_11, .string a0_12, .int .i64 a0_13, .int .i64 a0_14, .int .i64 a0_15, .bool a0_16]) (t := 45) ?hr ?_; (case hd => rfl); (case hg => rfl); (case hr => first | (go_simp; done) | (go_simp; rfl)); intro gb428 hg w11 hbox hb; have n0_ := A0m (below_step (by repeat (first | (with_reducible first | exact HB.out | apply bA | apply bN | apply bD) | exact HB.out)) hb); have n1_ := A0m (hbox); have n2_ := A0m ((by rw [hg]; exact (below_size (by repeat (first | (with_reducible first | exact HB.out | apply bA | apply bN | apply bD) | exact HB.out))) : w.heap.size ≤ gb428)); have n3_ := A0m ((by rw [hg]; exact (below_size (by repeat (first | (with_reducible first | exact HB.out | apply bA | apply bN | apply bD) | exact HB.out))) : w.heap.size ≤ gb428)); clear HB; have HB := n0_; have BK428 := n1_; have GW428 := n2_; have GE428 := n3_; clear n0_ n1_ n2_ n3_; clear hb hbox hg; have hcz12_0 : w11.cell? ⟨gb428, 0, none⟩ = some (.int .i64 a0_0) := (kC BK428.out 0).trans rfl; have hcz12_1 : w11.cell? ⟨gb428, 1, none⟩ = some (.int .i64 a0_1) := (kC BK428.out 1).trans rfl; have hcz12_2 : w11.cell? ⟨gb428, 2, none⟩ = some (.int .i64 a0_2) := (kC BK428.out 2).trans rfl; have hcz12_3 : w11.cell? ⟨gb428, 3, none⟩ = some (.int .i64 a0_3) := (kC BK428.out 3).trans rfl; have hcz12_4 : w11.cell? ⟨gb428, 4, none⟩ = some (.int .i64 a0_4) := (kC BK428.out 4).trans rfl; have hcz12_5 : w11.cell? ⟨gb428, 5, none⟩ = some (.int .i64 a0_5) := (kC BK428.out 5).trans rfl; have hcz12_6 : w11.cell? ⟨gb428, 6, none⟩ = some (.string a0_6) := (kC BK428.out 6).trans rfl; have hcz12_7 : w11.cell? ⟨gb428, 7, none⟩ = some (.bool false) := (kC BK428.out 7).trans rfl; have hcz12_8 : w11.cell? ⟨gb428, 8, none⟩ = some (.int .i64 a0_8) := (kC BK428.out 8).trans rfl; have hcz12_9 : w11.cell? ⟨gb428, 9, none⟩ = some (.int .i64 a0_9) := (kC BK428.out 9).trans rfl; have hcz12_10 : w11.cell? ⟨gb428, 10, none⟩ = some (.int .i64 a0_10) := (kC BK428.out 10).trans rfl; have hcz12_11 : w11.cell? ⟨gb428, 11, none⟩ = some (.string a0_11) := (kC BK428.out 11).trans rfl; have hcz12_12 : w11.cell? ⟨gb428, 12, none⟩ = some (.string a0_12) := (kC BK428.out 12).trans rfl; have hcz12_13 : w11.cell? ⟨gb428, 13, none⟩ = some (.int .i64 a0_13) := (kC BK428.out 13).trans rfl; have hcz12_14 : w11.cell? ⟨gb428, 14, none⟩ = some (.int .i64 a0_14) := (kC BK428.out 14).trans rfl; have hcz12_15 : w11.cell? ⟨gb428, 15, none⟩ = some (.int .i64 a0_15) := (kC BK428.out 15).trans rfl; have hcz12_16 : w11.cell? ⟨gb428, 16, none⟩ = some (.bool a0_16) := (kC BK428.out 16).trans rfl; have hfz12_0 := kF BK428.out 0; have hfz12_1 := kF BK428.out 1; have hfz12_2 := kF BK428.out 2; have hfz12_3 := kF BK428.out 3; have hfz12_4 := kF BK428.out 4; have hfz12_5 := kF BK428.out 5; have hfz12_6 := kF BK428.out 6; have hfz12_7 := kF BK428.out 7; have hfz12_8 := kF BK428.out 8; have hfz12_9 := kF BK428.out 9; have hfz12_10 := kF BK428.out 10; have hfz12_11 := kF BK428.out 11; have hfz12_12 := kF BK428.out 12; have hfz12_13 := kF BK428.out 13; have hfz12_14 := kF BK428.out 14; have hfz12_15 := kF BK428.out 15; have hfz12_16 := kF BK428.out 16) | ((with_reducible refine gate_callee (f := 171) rfl ?_); refine goesL_ (some 5) rfl rfl Tryz.func171 (by kernel_rfl) rfl #[.int .i64 a0_9] rfl (by (try simp only [List.map_toArray, List.map_cons, List.map_nil]); first | done | rfl | (simp only [List.length_drop, List.length_take]; rfl)) ?_; (with_reducible refine (octroiref18_Output.calls a0_9 true _ A2.out).mono ?_); rintro e w' ⟨rfl, ⟨nd, rfl⟩⟩; refine ⟨_, rfl, ?_⟩) | (go_at_call 172; (with_reducible refine (octroiref18_Deducts.calls a0_9 false _ A7.out).mono ?_); rintro e w' ⟨rfl, ⟨nd, rfl⟩⟩))
    go_ret
    exact ⟨by first | rfl | (simp [errW_none, errW_some] <;> rfl) | (simp [*, errW_none, errW_some] <;> rfl), by repeat (first | (with_reducible first | exact HB.out | apply bA | apply bN | apply bD | refine bS ?_ GE428.out) | exact HB.out)⟩
 ·replace c3 := Bool.eq_false_iff.mpr c3
  subst c3
  have H1 : (some 0) = some r := by rw [if_neg (show ¬ (false = true) by decide)] at H; exact H
  clear H
  have H := H1
  clear H1
  obtain rfl := Option.some.inj H
  go_enter Tryz.func140, Tryz.ntmps140
  go_wp2_with (first | ((with_reducible refine gate_dst (N := 1) rfl ?_); refine box_event ?hg (N := 1) ?hd (cs := #[.int .i64 a0_0, .int .i64 a0_1, .int .i64 a0_2, .int .i64 a0_3, .int .i64 a0_4, .int .i64 a0_5, .string a0_6, .bool a0_7, .int .i64 a0_8, .int .i64 a0_9, .int .i64 a0_10, .string a0_11, .string a0_12, .int .i64 a0_13, .int .i64 a0_14, .int .i64 a0_15, .bool a0_16]) (t := 45) ?hr ?_; (case hd => rfl); (case hg => rfl); (case hr => first | (go_simp; done) | (go_simp; rfl)); intro gb428 hg w13 hbox hb; have n0_ := A0m (below_step (by repeat (first | (with_reducible first | exact HB.out | apply bA | apply bN | apply bD) | exact HB.out)) hb); have n1_ := A0m (hbox); have n2_ := A0m ((by rw [hg]; exact (below_size (by repeat (first | (with_reducible first | exact HB.out | apply bA | apply bN | apply bD) | exact HB.out))) : w.heap.size ≤ gb428)); have n3_ := A0m ((by rw [hg]; exact (below_size (by repeat (first | (with_reducible first | exact HB.out | apply bA | apply bN | apply bD) | exact HB.out))) : w.heap.size ≤ gb428)); clear HB; have HB := n0_; have BK428 := n1_; have GW428 := n2_; have GE428 := n3_; clear n0_ n1_ n2_ n3_; clear hb hbox hg; have hcz14_0 : w13.cell? ⟨gb428, 0, none⟩ = some (.int .i64 a0_0) := (kC BK428.out 0).trans rfl; have hcz14_1 : w13.cell? ⟨gb428, 1, none⟩ = some (.int .i64 a0_1) := (kC BK428.out 1).trans rfl; have hcz14_2 : w13.cell? ⟨gb428, 2, none⟩ = some (.int .i64 a0_2) := (kC BK428.out 2).trans rfl; have hcz14_3 : w13.cell? ⟨gb428, 3, none⟩ = some (.int .i64 a0_3) := (kC BK428.out 3).trans rfl; have hcz14_4 : w13.cell? ⟨gb428, 4, none⟩ = some (.int .i64 a0_4) := (kC BK428.out 4).trans rfl; have hcz14_5 : w13.cell? ⟨gb428, 5, none⟩ = some (.int .i64 a0_5) := (kC BK428.out 5).trans rfl; have hcz14_6 : w13.cell? ⟨gb428, 6, none⟩ = some (.string a0_6) := (kC BK428.out 6).trans rfl; have hcz14_7 : w13.cell? ⟨gb428, 7, none⟩ = some (.bool a0_7) := (kC BK428.out 7).trans rfl; have hcz14_8 : w13.cell? ⟨gb428, 8, none⟩ = some (.int .i64 a0_8) := (kC BK428.out 8).trans rfl; have hcz14_9 : w13.cell? ⟨gb428, 9, none⟩ = some (.int .i64 a0_9) := (kC BK428.out 9).trans rfl; have hcz14_10 : w13.cell? ⟨gb428, 10, none⟩ = some (.int .i64 a0_10) := (kC BK428.out 10).trans rfl; have hcz14_11 : w13.cell? ⟨gb428, 11, none⟩ = some (.string a0_11) := (kC BK428.out 11).trans rfl; have hcz14_12 : w13.cell? ⟨gb428, 12, none⟩ = some (.string a0_12) := (kC BK428.out 12).trans rfl; have hcz14_13 : w13.cell? ⟨gb428, 13, none⟩ = some (.int .i64 a0_13) := (kC BK428.out 13).trans rfl; have hcz14_14 : w13.cell? ⟨gb428, 14, none⟩ = some (.int .i64 a0_14) := (kC BK428.out 14).trans rfl; have hcz14_15 : w13.cell? ⟨gb428, 15, none⟩ = some (.int .i64 a0_15) := (kC BK428.out 15).trans rfl; have hcz14_16 : w13.cell? ⟨gb428, 16, none⟩ = some (.bool a0_16) := (kC BK428.out 16).trans rfl; have hfz14_0 := kF BK428.out 0; have hfz14_1 := kF BK428.out 1; have hfz14_2 := kF BK428.out 2; have hfz14_3 := kF BK428.out 3; have hfz14_4 := kF BK428.out 4; have hfz14_5 := kF BK428.out 5; have hfz14_6 := kF BK428.out 6; have hfz14_7 := kF BK428.out 7; have hfz14_8 := kF BK428.out 8; have hfz14_9 := kF BK428.out 9; have hfz14_10 := kF BK428.out 10; have hfz14_11 := kF BK428.out 11; have hfz14_12 := kF BK428.out 12; have hfz14_13 := kF BK428.out 13; have hfz14_14 := kF BK428.out 14; have hfz14_15 := kF BK428.out 15; have hfz14_16 := kF BK428.out 16) | ((with_reducible refine gate_callee (f := 171) rfl ?_); refine goesL_ (some 5) rfl rfl Tryz.func171 (by kernel_rfl) rfl #[.int .i64 a0_9] rfl (by (try simp only [List.map_toArray, List.map_cons, List.map_nil]); first | done | rfl | (simp only [List.length_drop, List.length_take]; rfl)) ?_; (with_reducible refine (octroiref18_Output.calls a0_9 false _ A2.out).mono ?_); rintro e w' ⟨rfl, ⟨nd, rfl⟩⟩; refine ⟨_, rfl, ?_⟩))
  go_ret
  exact ⟨by first | rfl | (simp [errW_none, errW_some] <;> rfl) | (simp [*, errW_none, errW_some] <;> rfl), by repeat (first | (with_reducible first | exact HB.out | apply bA | apply bN | apply bD | refine bS ?_ GE428.out) | exact HB.out)⟩

/-! ### octroiref25_Field: function 112 -/
def octroiref25_Field.f (a0_0 a0_1 a0_2 a0_3 a0_4 a0_5 : Int) (a0_6 : ByteArray) (a0_7 : Bool) (a0_8 a0_9 a0_10 : Int) (a0_11 a0_12 : ByteArray) (a0_13 a0_14 a0_15 : Int) (a0_16 : Bool) (a1 : ByteArray) : Option (Int × Bool) := if a1.toList = ([98, 97, 115, 101] : List UInt8) then (some (a0_13, true)) else (if a1.toList = ([116, 97, 120] : List UInt8) then (some (a0_14, true)) else (if a1.toList = ([111, 117, 116] : List UInt8) then ((octroiref25_Owed.f a0_0 a0_1 a0_2 a0_3 a0_4 a0_5 a0_6 a0_7 a0_8 a0_9 a0_10 a0_11 a0_12 a0_13 a0_14 a0_15 a0_16).bind fun t432 => (some (t432, true))) else (if a1.toList = ([105, 110] : List UInt8) then (some (a0_15, true)) else (some (0, false)))))
set_option maxHeartbeats 8000000 in
set_option maxRecDepth 100000 in
theorem octroiref25_Field.calls (a0_0 a0_1 a0_2 a0_3 a0_4 a0_5 : Int) (a0_6 : ByteArray) (a0_7 : Bool) (a0_8 a0_9 a0_10 : Int) (a0_11 a0_12 : ByteArray) (a0_13 a0_14 a0_15 : Int) (a0_16 : Bool) (a1 : ByteArray) (r1 : Int) (r2 : Bool) (w : World) (h : octroiref25_Field.f a0_0 a0_1 a0_2 a0_3 a0_4 a0_5 a0_6 a0_7 a0_8 a0_9 a0_10 a0_11 a0_12 a0_13 a0_14 a0_15 a0_16 a1 = some (r1, r2)) :
  Calls Tryz.prog 112 #[.agg #[.int .i64 a0_0, .int .i64 a0_1, .int .i64 a0_2, .int .i64 a0_3, .int .i64 a0_4, .int .i64 a0_5, .string a0_6, .bool a0_7, .int .i64 a0_8, .int .i64 a0_9, .int .i64 a0_10, .string a0_11, .string a0_12, .int .i64 a0_13, .int .i64 a0_14, .int .i64 a0_15, .bool a0_16], .string a1] w fun e w' => e = .returned (.tuple #[.int .i64 r1, .bool r2]) ∧ Below w.heap.size w w' := by
 have hu45 := Tryz.underlying45
 have HB := A0m (Below.refl w.heap.size w)
 have H : (if a1.toList = ([98, 97, 115, 101] : List UInt8) then (some (a0_13, true)) else (if a1.toList = ([116, 97, 120] : List UInt8) then (some (a0_14, true)) else (if a1.toList = ([111, 117, 116] : List UInt8) then ((octroiref25_Owed.f a0_0 a0_1 a0_2 a0_3 a0_4 a0_5 a0_6 a0_7 a0_8 a0_9 a0_10 a0_11 a0_12 a0_13 a0_14 a0_15 a0_16).bind fun t432 => (some (t432, true))) else (if a1.toList = ([105, 110] : List UInt8) then (some (a0_15, true)) else (some (0, false)))))) = some (r1, r2) := h
 clear h
 by_cases c3 : a1.toList = ([98, 97, 115, 101] : List UInt8)
 ·rw [if_pos c3] at H
  have c3b0 : (a1.toList == ([98, 97, 115, 101] : List UInt8)) = true := beq_iff_eq.mpr c3
  have c3b1 : (a1.toList != ([98, 97, 115, 101] : List UInt8)) = false := bne_eq_false_iff_eq.mpr c3
  clear c3
  simp only [Option.some.injEq, Prod.mk.injEq] at H
  obtain ⟨rfl, rfl⟩ := H
  go_enter Tryz.func112, Tryz.ntmps112
  go_wp2_with (first | ((first | (with_reducible refine gate_dst (N := 17) rfl ?_)); (try (refine gate_guard (by rfl) ?_; dsimp only)); apply RowTake.wpl_row (ty := 45) (hu := Tryz.underlying45) (hd := rfl); (case hgd => rfl); (case ho => rfl); (case hx => rfl); (case hg => repeat (first | exact Aside0.out (by with_reducible assumption) | refine kN ?_ _ | refine kD ?_ | refine kA ?_ _)); (case hi => kernel_rfl)) | ((with_reducible refine gate_dst (N := 2) rfl ?_); refine box_event ?hg (N := 2) ?hd (cs := #[.int .i64 a0_0, .int .i64 a0_1, .int .i64 a0_2, .int .i64 a0_3, .int .i64 a0_4, .int .i64 a0_5, .string a0_6, .bool a0_7, .int .i64 a0_8, .int .i64 a0_9, .int .i64 a0_10, .string a0_11, .string a0_12, .int .i64 a0_13, .int .i64 a0_14, .int .i64 a0_15, .bool a0_16]) (t := 45) ?hr ?_; (case hd => rfl); (case hg => rfl); (case hr => first | (go_simp; done) | (go_simp; rfl)); intro gb431 hg w4 hbox hb; have n0_ := A0m (below_step (by repeat (first | (with_reducible first | exact HB.out | apply bA | apply bN | apply bD) | exact HB.out)) hb); have n1_ := A0m (hbox); have n2_ := A0m ((by rw [hg]; exact (below_size (by repeat (first | (with_reducible first | exact HB.out | apply bA | apply bN | apply bD) | exact HB.out))) : w.heap.size ≤ gb431)); have n3_ := A0m ((by rw [hg]; exact (below_size (by repeat (first | (with_reducible first | exact HB.out | apply bA | apply bN | apply bD) | exact HB.out))) : w.heap.size ≤ gb431)); clear HB; have HB := n0_; have BK431 := n1_; have GW431 := n2_; have GE431 := n3_; clear n0_ n1_ n2_ n3_; clear hb hbox hg; have hcz5_13 : w4.cell? ⟨gb431, 13, none⟩ = some (.int .i64 a0_13) := (kC BK431.out 13).trans rfl; have hcz5_14 : w4.cell? ⟨gb431, 14, none⟩ = some (.int .i64 a0_14) := (kC BK431.out 14).trans rfl; have hcz5_15 : w4.cell? ⟨gb431, 15, none⟩ = some (.int .i64 a0_15) := (kC BK431.out 15).trans rfl; have hfz5_13 := kF BK431.out 13; have hfz5_14 := kF BK431.out 14; have hfz5_15 := kF BK431.out 15))
  go_ret2
  exact ⟨by first | rfl | (simp [errW_none, errW_some] <;> rfl) | (simp [*, errW_none, errW_some] <;> rfl), by repeat (first | (with_reducible first | exact HB.out | apply bA | apply bN | apply bD | refine bS ?_ GE431.out) | exact HB.out)⟩
 ·rw [if_neg c3] at H
  have c3b0 : (a1.toList == ([98, 97, 115, 101] : List UInt8)) = false := beq_eq_false_iff_ne.mpr c3
  have c3b1 : (a1.toList != ([98, 97, 115, 101] : List UInt8)) = true := bne_iff_ne.mpr c3
  by_cases c6 : a1.toList = ([116, 97, 120] : List UInt8)
  ·rw [if_pos c6] at H
   have c6b0 : (a1.toList == ([116, 97, 120] : List UInt8)) = true := beq_iff_eq.mpr c6
   have c6b1 : (a1.toList != ([116, 97, 120] : List UInt8)) = false := bne_eq_false_iff_eq.mpr c6
   clear c6
   simp only [Option.some.injEq, Prod.mk.injEq] at H
   obtain ⟨rfl, rfl⟩ := H
   go_enter Tryz.func112, Tryz.ntmps112
   go_wp2_with (first | ((first | (with_reducible refine gate_dst (N := 17) rfl ?_)); (try (refine gate_guard (by rfl) ?_; dsimp only)); apply RowTake.wpl_row (ty := 45) (hu := Tryz.underlying45) (hd := rfl); (case hgd => rfl); (case ho => rfl); (case hx => rfl); (case hg => repeat (first | exact Aside0.out (by with_reducible assumption) | refine kN ?_ _ | refine kD ?_ | refine kA ?_ _)); (case hi => kernel_rfl)) | ((with_reducible refine gate_dst (N := 2) rfl ?_); refine box_event ?hg (N := 2) ?hd (cs := #[.int .i64 a0_0, .int .i64 a0_1, .int .i64 a0_2, .int .i64 a0_3, .int .i64 a0_4, .int .i64 a0_5, .string a0_6, .bool a0_7, .int .i64 a0_8, .int .i64 a0_9, .int .i64 a0_10, .string a0_11, .string a0_12, .int .i64 a0_13, .int .i64 a0_14, .int .i64 a0_15, .bool a0_16]) (t := 45) ?hr ?_; (case hd => rfl); (case hg => rfl); (case hr => first | (go_simp; done) | (go_simp; rfl)); intro gb431 hg w7 hbox hb; have n0_ := A0m (below_step (by repeat (first | (with_reducible first | exact HB.out | apply bA | apply bN | apply bD) | exact HB.out)) hb); have n1_ := A0m (hbox); have n2_ := A0m ((by rw [hg]; exact (below_size (by repeat (first | (with_reducible first | exact HB.out | apply bA | apply bN | apply bD) | exact HB.out))) : w.heap.size ≤ gb431)); have n3_ := A0m ((by rw [hg]; exact (below_size (by repeat (first | (with_reducible first | exact HB.out | apply bA | apply bN | apply bD) | exact HB.out))) : w.heap.size ≤ gb431)); clear HB; have HB := n0_; have BK431 := n1_; have GW431 := n2_; have GE431 := n3_; clear n0_ n1_ n2_ n3_; clear hb hbox hg; have hcz8_13 : w7.cell? ⟨gb431, 13, none⟩ = some (.int .i64 a0_13) := (kC BK431.out 13).trans rfl; have hcz8_14 : w7.cell? ⟨gb431, 14, none⟩ = some (.int .i64 a0_14) := (kC BK431.out 14).trans rfl; have hcz8_15 : w7.cell? ⟨gb431, 15, none⟩ = some (.int .i64 a0_15) := (kC BK431.out 15).trans rfl; have hfz8_13 := kF BK431.out 13; have hfz8_14 := kF BK431.out 14; have hfz8_15 := kF BK431.out 15))
   go_ret2
   exact ⟨by first | rfl | (simp [errW_none, errW_some] <;> rfl) | (simp [*, errW_none, errW_some] <;> rfl), by repeat (first | (with_reducible first | exact HB.out | apply bA | apply bN | apply bD | refine bS ?_ GE431.out) | exact HB.out)⟩
  ·rw [if_neg c6] at H
   have c6b0 : (a1.toList == ([116, 97, 120] : List UInt8)) = false := beq_eq_false_iff_ne.mpr c6
   have c6b1 : (a1.toList != ([116, 97, 120] : List UInt8)) = true := bne_iff_ne.mpr c6
   by_cases c9 : a1.toList = ([111, 117, 116] : List UInt8)
   ·rw [if_pos c9] at H
    have c9b0 : (a1.toList == ([111, 117, 116] : List UInt8)) = true := beq_iff_eq.mpr c9
    have c9b1 : (a1.toList != ([111, 117, 116] : List UInt8)) = false := bne_eq_false_iff_eq.mpr c9
    clear c9
    replace H := Option.bind_eq_some_iff.mp H
    obtain ⟨t432, A100, H⟩ := H
    replace H : (some (t432, true)) = some (r1, r2) := H
    have A10 := A0m A100
    clear A100
    simp only [Option.some.injEq, Prod.mk.injEq] at H
    obtain ⟨rfl, rfl⟩ := H
    go_enter Tryz.func112, Tryz.ntmps112
    go_wp2_with (first | ((first | (with_reducible refine gate_dst (N := 17) rfl ?_)); (try (refine gate_guard (by rfl) ?_; dsimp only)); apply RowTake.wpl_row (ty := 45) (hu := Tryz.underlying45) (hd := rfl); (case hgd => rfl); (case ho => rfl); (case hx => rfl); (case hg => repeat (first | exact Aside0.out (by with_reducible assumption) | refine kN ?_ _ | refine kD ?_ | refine kA ?_ _)); (case hi => kernel_rfl)) | ((with_reducible refine gate_dst (N := 2) rfl ?_); refine box_event ?hg (N := 2) ?hd (cs := #[.int .i64 a0_0, .int .i64 a0_1, .int .i64 a0_2, .int .i64 a0_3, .int .i64 a0_4, .int .i64 a0_5, .string a0_6, .bool a0_7, .int .i64 a0_8, .int .i64 a0_9, .int .i64 a0_10, .string a0_11, .string a0_12, .int .i64 a0_13, .int .i64 a0_14, .int .i64 a0_15, .bool a0_16]) (t := 45) ?hr ?_; (case hd => rfl); (case hg => rfl); (case hr => first | (go_simp; done) | (go_simp; rfl)); intro gb431 hg w11 hbox hb; have n0_ := A0m (below_step (by repeat (first | (with_reducible first | exact HB.out | apply bA | apply bN | apply bD) | exact HB.out)) hb); have n1_ := A0m (hbox); have n2_ := A0m ((by rw [hg]; exact (below_size (by repeat (first | (with_reducible first | exact HB.out | apply bA | apply bN | apply bD) | exact HB.out))) : w.heap.size ≤ gb431)); have n3_ := A0m ((by rw [hg]; exact (below_size (by repeat (first | (with_reducible first | exact HB.out | apply bA | apply bN | apply bD) | exact HB.out))) : w.heap.size ≤ gb431)); clear HB; have HB := n0_; have BK431 := n1_; have GW431 := n2_; have GE431 := n3_; clear n0_ n1_ n2_ n3_; clear hb hbox hg; have hcz12_13 : w11.cell? ⟨gb431, 13, none⟩ = some (.int .i64 a0_13) := (kC BK431.out 13).trans rfl; have hcz12_14 : w11.cell? ⟨gb431, 14, none⟩ = some (.int .i64 a0_14) := (kC BK431.out 14).trans rfl; have hcz12_15 : w11.cell? ⟨gb431, 15, none⟩ = some (.int .i64 a0_15) := (kC BK431.out 15).trans rfl; have hfz12_13 := kF BK431.out 13; have hfz12_14 := kF BK431.out 14; have hfz12_15 := kF BK431.out 15) | ((with_reducible refine gate_callee (f := 140) rfl ?_); refine goesL_ (some 18) rfl rfl Tryz.func140 (by kernel_rfl) rfl #[.agg #[.int .i64 a0_0, .int .i64 a0_1, .int .i64 a0_2, .int .i64 a0_3, .int .i64 a0_4, .int .i64 a0_5, .string a0_6, .bool a0_7, .int .i64 a0_8, .int .i64 a0_9, .int .i64 a0_10, .string a0_11, .string a0_12, .int .i64 a0_13, .int .i64 a0_14, .int .i64 a0_15, .bool a0_16]] rfl (by (try simp only [List.map_toArray, List.map_cons, List.map_nil]); first | done | rfl | (simp only [List.length_drop, List.length_take]; rfl)) ?_; (with_reducible refine (octroiref25_Owed.calls a0_0 a0_1 a0_2 a0_3 a0_4 a0_5 a0_6 a0_7 a0_8 a0_9 a0_10 a0_11 a0_12 a0_13 a0_14 a0_15 a0_16 t432 _ A10.out).mono ?_); rintro e w13 ⟨rfl, hb⟩; refine ⟨_, rfl, ?_⟩; have n0_ := A0m (blk_below (g := gb431) (o := .cells #[.int .i64 a0_0, .int .i64 a0_1, .int .i64 a0_2, .int .i64 a0_3, .int .i64 a0_4, .int .i64 a0_5, .string a0_6, .bool a0_7, .int .i64 a0_8, .int .i64 a0_9, .int .i64 a0_10, .string a0_11, .string a0_12, .int .i64 a0_13, .int .i64 a0_14, .int .i64 a0_15, .bool a0_16] 45 (0, 0)) (by (with_reducible repeat (first | refine kN ?_ _ | refine kD ?_ | refine kA ?_ _)); exact BK431.out) hb); have n1_ := A0m (below_step (by repeat (first | (with_reducible first | exact HB.out | apply bA | apply bN | apply bD | refine bS ?_ GE431.out) | exact HB.out)) hb); clear BK431; clear HB; have BK431 := n0_; have HB := n1_; clear n0_ n1_; (try clear hb); (try clear hb2); (try clear hk); (try clear hi)))
    go_ret2
    exact ⟨by first | rfl | (simp [errW_none, errW_some] <;> rfl) | (simp [*, errW_none, errW_some] <;> rfl), by repeat (first | (with_reducible first | exact HB.out | apply bA | apply bN | apply bD | refine bS ?_ GE431.out) | exact HB.out)⟩
   ·rw [if_neg c9] at H
    have c9b0 : (a1.toList == ([111, 117, 116] : List UInt8)) = false := beq_eq_false_iff_ne.mpr c9
    have c9b1 : (a1.toList != ([111, 117, 116] : List UInt8)) = true := bne_iff_ne.mpr c9
    by_cases c14 : a1.toList = ([105, 110] : List UInt8)
    ·rw [if_pos c14] at H
     have c14b0 : (a1.toList == ([105, 110] : List UInt8)) = true := beq_iff_eq.mpr c14
     have c14b1 : (a1.toList != ([105, 110] : List UInt8)) = false := bne_eq_false_iff_eq.mpr c14
     clear c14
     simp only [Option.some.injEq, Prod.mk.injEq] at H
     obtain ⟨rfl, rfl⟩ := H
     go_enter Tryz.func112, Tryz.ntmps112
     go_wp2_with (first | ((first | (with_reducible refine gate_dst (N := 17) rfl ?_)); (try (refine gate_guard (by rfl) ?_; dsimp only)); apply RowTake.wpl_row (ty := 45) (hu := Tryz.underlying45) (hd := rfl); (case hgd => rfl); (case ho => rfl); (case hx => rfl); (case hg => repeat (first | exact Aside0.out (by with_reducible assumption) | refine kN ?_ _ | refine kD ?_ | refine kA ?_ _)); (case hi => kernel_rfl)) | ((with_reducible refine gate_dst (N := 2) rfl ?_); refine box_event ?hg (N := 2) ?hd (cs := #[.int .i64 a0_0, .int .i64 a0_1, .int .i64 a0_2, .int .i64 a0_3, .int .i64 a0_4, .int .i64 a0_5, .string a0_6, .bool a0_7, .int .i64 a0_8, .int .i64 a0_9, .int .i64 a0_10, .string a0_11, .string a0_12, .int .i64 a0_13, .int .i64 a0_14, .int .i64 a0_15, .bool a0_16]) (t := 45) ?hr ?_; (case hd => rfl); (case hg => rfl); (case hr => first | (go_simp; done) | (go_simp; rfl)); intro gb431 hg w15 hbox hb; have n0_ := A0m (below_step (by repeat (first | (with_reducible first | exact HB.out | apply bA | apply bN | apply bD) | exact HB.out)) hb); have n1_ := A0m (hbox); have n2_ := A0m ((by rw [hg]; exact (below_size (by repeat (first | (with_reducible first | exact HB.out | apply bA | apply bN | apply bD) | exact HB.out))) : w.heap.size ≤ gb431)); have n3_ := A0m ((by rw [hg]; exact (below_size (by repeat (first | (with_reducible first | exact HB.out | apply bA | apply bN | apply bD) | exact HB.out))) : w.heap.size ≤ gb431)); clear HB; have HB := n0_; have BK431 := n1_; have GW431 := n2_; have GE431 := n3_; clear n0_ n1_ n2_ n3_; clear hb hbox hg; have hcz16_13 : w15.cell? ⟨gb431, 13, none⟩ = some (.int .i64 a0_13) := (kC BK431.out 13).trans rfl; have hcz16_14 : w15.cell? ⟨gb431, 14, none⟩ = some (.int .i64 a0_14) := (kC BK431.out 14).trans rfl; have hcz16_15 : w15.cell? ⟨gb431, 15, none⟩ = some (.int .i64 a0_15) := (kC BK431.out 15).trans rfl; have hfz16_13 := kF BK431.out 13; have hfz16_14 := kF BK431.out 14; have hfz16_15 := kF BK431.out 15))
     go_ret2
     exact ⟨by first | rfl | (simp [errW_none, errW_some] <;> rfl) | (simp [*, errW_none, errW_some] <;> rfl), by repeat (first | (with_reducible first | exact HB.out | apply bA | apply bN | apply bD | refine bS ?_ GE431.out) | exact HB.out)⟩
    ·rw [if_neg c14] at H
     have c14b0 : (a1.toList == ([105, 110] : List UInt8)) = false := beq_eq_false_iff_ne.mpr c14
     have c14b1 : (a1.toList != ([105, 110] : List UInt8)) = true := bne_iff_ne.mpr c14
     simp only [Option.some.injEq, Prod.mk.injEq] at H
     obtain ⟨rfl, rfl⟩ := H
     go_enter Tryz.func112, Tryz.ntmps112
     go_wp2_with (first | ((first | (with_reducible refine gate_dst (N := 17) rfl ?_)); (try (refine gate_guard (by rfl) ?_; dsimp only)); apply RowTake.wpl_row (ty := 45) (hu := Tryz.underlying45) (hd := rfl); (case hgd => rfl); (case ho => rfl); (case hx => rfl); (case hg => repeat (first | exact Aside0.out (by with_reducible assumption) | refine kN ?_ _ | refine kD ?_ | refine kA ?_ _)); (case hi => kernel_rfl)) | ((with_reducible refine gate_dst (N := 2) rfl ?_); refine box_event ?hg (N := 2) ?hd (cs := #[.int .i64 a0_0, .int .i64 a0_1, .int .i64 a0_2, .int .i64 a0_3, .int .i64 a0_4, .int .i64 a0_5, .string a0_6, .bool a0_7, .int .i64 a0_8, .int .i64 a0_9, .int .i64 a0_10, .string a0_11, .string a0_12, .int .i64 a0_13, .int .i64 a0_14, .int .i64 a0_15, .bool a0_16]) (t := 45) ?hr ?_; (case hd => rfl); (case hg => rfl); (case hr => first | (go_simp; done) | (go_simp; rfl)); intro gb431 hg w17 hbox hb; have n0_ := A0m (below_step (by repeat (first | (with_reducible first | exact HB.out | apply bA | apply bN | apply bD) | exact HB.out)) hb); have n1_ := A0m (hbox); have n2_ := A0m ((by rw [hg]; exact (below_size (by repeat (first | (with_reducible first | exact HB.out | apply bA | apply bN | apply bD) | exact HB.out))) : w.heap.size ≤ gb431)); have n3_ := A0m ((by rw [hg]; exact (below_size (by repeat (first | (with_reducible first | exact HB.out | apply bA | apply bN | apply bD) | exact HB.out))) : w.heap.size ≤ gb431)); clear HB; have HB := n0_; have BK431 := n1_; have GW431 := n2_; have GE431 := n3_; clear n0_ n1_ n2_ n3_; clear hb hbox hg))
     go_ret2
     exact ⟨by first | rfl | (simp [errW_none, errW_some] <;> rfl) | (simp [*, errW_none, errW_some] <;> rfl), by repeat (first | (with_reducible first | exact HB.out | apply bA | apply bN | apply bD | refine bS ?_ GE431.out) | exact HB.out)⟩

end Go.Proofs.YtnaglnifpejpjaaGreatDoor.XEvalRuns
