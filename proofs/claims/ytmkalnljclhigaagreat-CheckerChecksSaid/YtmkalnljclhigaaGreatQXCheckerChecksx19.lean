-- WRITTEN BY wip/xprint.py (my own wrapper round the print, with contracts of my own in it)
import Derived.Test.YtmkalnljclhigaaGreatQXCheckerChecksx0
import Derived.Test.YtmkalnljclhigaaGreatQXCheckerChecksx12
import Derived.Test.YtmkalnljclhigaaGreatQXCheckerChecksx17
import Derived.Test.YtmkalnljclhigaaGreatQXCheckerChecksx18
namespace Go.Proofs.YtmkalnljclhigaaGreat.XCheckerChecks
open Go.RowKit Go.Proofs.YtmkalnljclhigaaGreatW.PrintWords Go.Proofs.YtmkalnljclhigaaGreatW.PrintLast Go.Proofs.YtmkalnljclhigaaGreatW.PrintMore
attribute [local go_sem] max2_int min2_int max_two min_two max_three min_three max_four min_four   -- for this text's walks alone
set_option linter.unusedVariables false
set_option linter.unusedSimpArgs false

/-! ### octroiref33_Check: function 7 -/
mutual
def octroiref33_Check.l0 : Nat → List (S35) → Int → Option (Int)
 | 0, _, _ => none
 | k + 1, x0, x3 => if x3 < (x0.length : Int) then (if 0 ≤ x3 then ((octroiref33_Find.f k x0 ((rd_T35 x0 x3).f0)).bind fun t394 => (if t394 = x3 then (octroiref33_Check.l0 k x0 (wrap64 (x3 + 1))) else (some 51))) else (none)) else (octroiref33_Check.l1 k x0 0)
def octroiref33_Check.l1 : Nat → List (S35) → Int → Option (Int)
 | 0, _, _ => none
 | k + 1, x0, x4 => if x4 < (x0.length : Int) then (if 0 ≤ x4 then ((octroiref31_Refs.f k ((rd_T35 x0 x4).f1.f0) ((rd_T35 x0 x4).f1.f1) ((rd_T35 x0 x4).f1.f2) ((rd_T35 x0 x4).f1.f3) ((rd_T35 x0 x4).f1.f4)).bind fun t396 => (octroiref33_Check.l2 k x0 x4 t396 0)) else (none)) else (octroiref33_Check.l3 k x0 0)
def octroiref33_Check.l2 : Nat → List (S35) → Int → List Int → Int → Option (Int)
 | 0, _, _, _, _ => none
 | k + 1, x0, x4, x5, x6 => if x6 < (x5.length : Int) then (if 0 ≤ x6 then ((octroiref33_Find.f k x0 (rd x5 x6)).bind fun t400 => (if t400 < 0 then (some 83) else (octroiref33_Check.l2 k x0 x4 x5 (wrap64 (x6 + 1))))) else (none)) else (octroiref33_Check.l1 k x0 (wrap64 (x4 + 1)))
def octroiref33_Check.l3 : Nat → List (S35) → Int → Option (Int)
 | 0, _, _ => none
 | k + 1, x0, x7 => if x7 < (x0.length : Int) then (if 0 ≤ x7 then ((octroiref33_Names.f k ((rd_T35 x0 x7).f1.f0) ((rd_T35 x0 x7).f1.f1) ((rd_T35 x0 x7).f1.f2) ((rd_T35 x0 x7).f1.f3) ((rd_T35 x0 x7).f1.f4)).bind fun t402 => (if t402 = true then (octroiref33_Check.l3 k x0 (wrap64 (x7 + 1))) else (some 80))) else (none)) else ((octroiref33_Order.f k x0).bind fun t403 => (if (t403.length : Int) < (x0.length : Int) then (some 84) else (some 0)))
end
def octroiref33_Check.f (k : Nat) (l0 : List (S35)) : Option (Int) := (octroiref31_Good.f k l0).bind fun t392 => (if t392 = true then (octroiref33_Check.l0 k l0 0) else (some 2))
theorem octroiref33_Check.mono_l : ∀ k, (∀ y0 y1, LeO (octroiref33_Check.l0 k y0 y1) (octroiref33_Check.l0 (k + 1) y0 y1)) ∧ (∀ y0 y1, LeO (octroiref33_Check.l1 k y0 y1) (octroiref33_Check.l1 (k + 1) y0 y1)) ∧ (∀ y0 y1 y2 y3, LeO (octroiref33_Check.l2 k y0 y1 y2 y3) (octroiref33_Check.l2 (k + 1) y0 y1 y2 y3)) ∧ (∀ y0 y1, LeO (octroiref33_Check.l3 k y0 y1) (octroiref33_Check.l3 (k + 1) y0 y1))
 | 0 => ⟨fun _ _ r h => by simp [octroiref33_Check.l0] at h, fun _ _ r h => by simp [octroiref33_Check.l1] at h, fun _ _ _ _ r h => by simp [octroiref33_Check.l2] at h, fun _ _ r h => by simp [octroiref33_Check.l3] at h⟩
 | k + 1 => by
  obtain ⟨ih0, ih1, ih2, ih3⟩ := octroiref33_Check.mono_l k
  refine ⟨?_, ?_, ?_, ?_⟩
  ·intro y0 y1
   unfold octroiref33_Check.l0
   repeat' first
   | (with_reducible exact ih0 _ _)
   | (with_reducible exact ih1 _ _)
   | (with_reducible exact ih2 _ _ _ _)
   | (with_reducible exact ih3 _ _)
   | (with_reducible exact octroiref31_Good.mono _ _)
   | (with_reducible exact octroiref31_Refs.mono _ _ _ _ _ _)
   | (with_reducible exact octroiref33_Find.mono _ _ _)
   | (with_reducible exact octroiref33_Names.mono _ _ _ _ _ _)
   | (with_reducible exact octroiref33_Order.mono _ _)
   | (with_reducible exact LeO.refl _)
   | (with_reducible exact LeO.none _)
   | (with_reducible refine LeO.ite ?_ ?_)
   | (with_reducible refine LeO.bind ?_ (fun _ => ?_))
   | exact ih0 _ _
   | exact ih1 _ _
   | exact ih2 _ _ _ _
   | exact ih3 _ _
   | exact octroiref31_Good.mono _ _
   | exact octroiref31_Refs.mono _ _ _ _ _ _
   | exact octroiref33_Find.mono _ _ _
   | exact octroiref33_Names.mono _ _ _ _ _ _
   | exact octroiref33_Order.mono _ _
   | exact LeO.none _
   | refine LeO.ite ?_ ?_
   | refine LeO.bind ?_ (fun _ => ?_)
  ·intro y0 y1
   unfold octroiref33_Check.l1
   repeat' first
   | (with_reducible exact ih0 _ _)
   | (with_reducible exact ih1 _ _)
   | (with_reducible exact ih2 _ _ _ _)
   | (with_reducible exact ih3 _ _)
   | (with_reducible exact octroiref31_Good.mono _ _)
   | (with_reducible exact octroiref31_Refs.mono _ _ _ _ _ _)
   | (with_reducible exact octroiref33_Find.mono _ _ _)
   | (with_reducible exact octroiref33_Names.mono _ _ _ _ _ _)
   | (with_reducible exact octroiref33_Order.mono _ _)
   | (with_reducible exact LeO.refl _)
   | (with_reducible exact LeO.none _)
   | (with_reducible refine LeO.ite ?_ ?_)
   | (with_reducible refine LeO.bind ?_ (fun _ => ?_))
   | exact ih0 _ _
   | exact ih1 _ _
   | exact ih2 _ _ _ _
   | exact ih3 _ _
   | exact octroiref31_Good.mono _ _
   | exact octroiref31_Refs.mono _ _ _ _ _ _
   | exact octroiref33_Find.mono _ _ _
   | exact octroiref33_Names.mono _ _ _ _ _ _
   | exact octroiref33_Order.mono _ _
   | exact LeO.none _
   | refine LeO.ite ?_ ?_
   | refine LeO.bind ?_ (fun _ => ?_)
  ·intro y0 y1 y2 y3
   unfold octroiref33_Check.l2
   repeat' first
   | (with_reducible exact ih0 _ _)
   | (with_reducible exact ih1 _ _)
   | (with_reducible exact ih2 _ _ _ _)
   | (with_reducible exact ih3 _ _)
   | (with_reducible exact octroiref31_Good.mono _ _)
   | (with_reducible exact octroiref31_Refs.mono _ _ _ _ _ _)
   | (with_reducible exact octroiref33_Find.mono _ _ _)
   | (with_reducible exact octroiref33_Names.mono _ _ _ _ _ _)
   | (with_reducible exact octroiref33_Order.mono _ _)
   | (with_reducible exact LeO.refl _)
   | (with_reducible exact LeO.none _)
   | (with_reducible refine LeO.ite ?_ ?_)
   | (with_reducible refine LeO.bind ?_ (fun _ => ?_))
   | exact ih0 _ _
   | exact ih1 _ _
   | exact ih2 _ _ _ _
   | exact ih3 _ _
   | exact octroiref31_Good.mono _ _
   | exact octroiref31_Refs.mono _ _ _ _ _ _
   | exact octroiref33_Find.mono _ _ _
   | exact octroiref33_Names.mono _ _ _ _ _ _
   | exact octroiref33_Order.mono _ _
   | exact LeO.none _
   | refine LeO.ite ?_ ?_
   | refine LeO.bind ?_ (fun _ => ?_)
  ·intro y0 y1
   unfold octroiref33_Check.l3
   repeat' first
   | (with_reducible exact ih0 _ _)
   | (with_reducible exact ih1 _ _)
   | (with_reducible exact ih2 _ _ _ _)
   | (with_reducible exact ih3 _ _)
   | (with_reducible exact octroiref31_Good.mono _ _)
   | (with_reducible exact octroiref31_Refs.mono _ _ _ _ _ _)
   | (with_reducible exact octroiref33_Find.mono _ _ _)
   | (with_reducible exact octroiref33_Names.mono _ _ _ _ _ _)
   | (with_reducible exact octroiref33_Order.mono _ _)
   | (with_reducible exact LeO.refl _)
   | (with_reducible exact LeO.none _)
   | (with_reducible refine LeO.ite ?_ ?_)
   | (with_reducible refine LeO.bind ?_ (fun _ => ?_))
   | exact ih0 _ _
   | exact ih1 _ _
   | exact ih2 _ _ _ _
   | exact ih3 _ _
   | exact octroiref31_Good.mono _ _
   | exact octroiref31_Refs.mono _ _ _ _ _ _
   | exact octroiref33_Find.mono _ _ _
   | exact octroiref33_Names.mono _ _ _ _ _ _
   | exact octroiref33_Order.mono _ _
   | exact LeO.none _
   | refine LeO.ite ?_ ?_
   | refine LeO.bind ?_ (fun _ => ?_)
set_option maxHeartbeats 8000000 in
set_option maxRecDepth 100000 in
theorem octroiref33_Check.calls (k : Nat) (A0 : Option Addr) (c0 : Nat) (l0 : List (S35)) (r : Int) (w : World) (hr0 : Kd.C k35 w A0 l0.length l0) (hc0 : l0.length ≤ c0) (h : octroiref33_Check.f k l0 = some r) :
  Calls Tryz.prog 7 #[.slice A0 l0.length c0] w fun e w' => e = .returned (.int .i64 r) ∧ Below w.heap.size w w' := by
 have hu33 := Tryz.underlying33
 have HR0 := A0m hr0
 have HC0 := A0m hc0
 clear hr0 hc0
 have HB := A0m (Below.refl w.heap.size w)
 have H : ((octroiref31_Good.f k l0).bind fun t392 => (if t392 = true then (octroiref33_Check.l0 k l0 0) else (some 2))) = some r := h
 clear h
 replace H := Option.bind_eq_some_iff.mp H
 obtain ⟨t392, A20, H⟩ := H
 replace H : (if t392 = true then (octroiref33_Check.l0 k l0 0) else (some 2)) = some r := H
 have A2 := A0m A20
 clear A20
 by_cases c3 : t392 = true
 ·subst c3
  have H1 : (octroiref33_Check.l0 k l0 0) = some r := by rw [if_pos rfl] at H; exact H
  clear H
  have H := H1
  clear H1
  have H' := A0m H
  clear H
  go_enter Tryz.func7, Tryz.ntmps7
  go_wp2_with (first | ((with_reducible refine gate_callee (f := 30) rfl ?_); refine goesL_ (some 9) rfl rfl Tryz.func30 (by kernel_rfl) rfl #[.slice A0 l0.length c0] rfl (by (try simp only [List.map_toArray, List.map_cons, List.map_nil]); first | done | rfl | (simp only [List.length_drop, List.length_take]; rfl)) ?_; (with_reducible refine (octroiref31_Good.calls k _ _ l0 true _ ?side1 ?side2 A2.out).mono ?_); (case side1 => repeat (first | exact HR0.out | (with_reducible refine Kd.C_alloc ?_ _) | (with_reducible refine Kd.C_drewN ?_ _) | (with_reducible refine Kd.C_drew ?_))); (case side2 => exact HC0.out); rintro e w4 ⟨rfl, hb⟩; refine ⟨_, rfl, ?_⟩; have n0_ := A0m (below_step (by repeat (first | (with_reducible first | exact HB.out | apply bA | apply bN | apply bD) | exact HB.out)) hb); clear HB; have HB := n0_; clear n0_; (try clear hb); (try clear hb2); (try clear hk); (try clear hi)))
  go_loopg [3] k (fun kq v3 w' => ∃ (x3_1 : Int), v3 = .int .i64 x3_1 ∧ Aside0 (octroiref33_Check.l0 kq l0 x3_1 = some r) ∧ Aside0 (kq ≤ k) ∧ Aside0 (Below w.heap.size w w'))
  case atStart => exact ⟨(0), (by first | rfl | (simp; done) | (simp [*]; done)), H', ⟨Nat.le_refl _⟩, ⟨by repeat (first | (with_reducible first | exact HB.out | apply bA | apply bN | apply bD) | exact HB.out)⟩⟩
  case round =>
   clear H'
   try clear p2
   try clear c3
   obtain ⟨x3_1, rfl, HA, HK1, HB⟩ := hrel
   cases gk with
   | zero => exact absurd HA.out (by simp [octroiref33_Check.l0])
   | succ k1 =>
    have H := HA.out
    clear HA
    simp only [octroiref33_Check.l0] at H
    by_cases c5 : x3_1 < (l0.length : Int)
    ·rw [if_pos c5] at H
     have c5b0 : decide (x3_1 < (l0.length : Int)) = true := decide_eq_true c5
     clear c5
     by_cases c6 : 0 ≤ x3_1
     ·rw [if_pos c6] at H
      have c6b0 : decide (0 ≤ x3_1) = true := decide_eq_true c6
      clear c6
      replace H := Option.bind_eq_some_iff.mp H
      obtain ⟨t394, A70, H⟩ := H
      replace H : (if t394 = x3_1 then (octroiref33_Check.l0 k1 l0 (wrap64 (x3_1 + 1))) else (some 51)) = some r := H
      have A7 := A0m A70
      clear A70
      by_cases c8 : t394 = x3_1
      ·rw [if_pos c8] at H
       have c8b0 : (t394 == x3_1) = true := beq_iff_eq.mpr c8
       have c8b1 : (t394 != x3_1) = false := bne_eq_false_iff_eq.mpr c8
       clear c8
       have H' := A0m H
       clear H
       have p393 : 0 ≤ (x3_1 : Int) := dT (by first | (with_reducible assumption) | assumption)
       have q393 : x3_1 < (l0.length : Int) := dT (by first | (with_reducible assumption) | assumption)
       obtain ⟨ad393, A393_4, c393_4, A393_5, c393_5, e393, hx393_0, hx393_1, hx393_2, hx393_3, hx393_4, hx393_5, hl393_4, hi393_4, hl393_5, hi393_5⟩ := at_T35 HR0.out x3_1 p393 q393
       cases e393
       replace hx393_0 := (HB.out.cell (wL w _ hx393_0)).trans hx393_0
       replace hx393_1 := (HB.out.cell (wL w _ hx393_1)).trans hx393_1
       replace hx393_2 := (HB.out.cell (wL w _ hx393_2)).trans hx393_2
       replace hx393_3 := (HB.out.cell (wL w _ hx393_3)).trans hx393_3
       replace hx393_4 := (HB.out.cell (wL w _ hx393_4)).trans hx393_4
       replace hx393_5 := (HB.out.cell (wL w _ hx393_5)).trans hx393_5
       have HR393_4 := A0m hi393_4
       have HC393_4 := A0m hl393_4
       clear hi393_4 hl393_4
       have HR393_5 := A0m hi393_5
       have HC393_5 := A0m hl393_5
       clear hi393_5 hl393_5
       replace p393 := eq_true p393
       replace q393 := eq_true q393
       go_wp2_with (first | ((with_reducible refine gate_callee (f := 12) rfl ?_); refine goesL_ (some 23) rfl rfl Tryz.func12 (by kernel_rfl) rfl #[.slice (some ad393) l0.length c0, .int .i64 ((rd_T35 l0 x3_1).f0)] rfl (by (try simp only [List.map_toArray, List.map_cons, List.map_nil]); first | done | rfl | (simp only [List.length_drop, List.length_take]; rfl)) ?_; (with_reducible refine (octroiref33_Find.calls k1 _ _ l0 ((rd_T35 l0 x3_1).f0) t394 _ ?side1 ?side2 A7.out).mono ?_); (case side1 => repeat (first | exact (Kd.C_below HR0.out HB.out) | (with_reducible refine Kd.C_alloc ?_ _) | (with_reducible refine Kd.C_drewN ?_ _) | (with_reducible refine Kd.C_drew ?_))); (case side2 => exact HC0.out); rintro e w' ⟨rfl, ⟨nd, rfl⟩⟩; refine ⟨_, rfl, ?_⟩))
       go_roundg k1
       case measure => have := HK1.out; omega
       case rel => exact ⟨(wrap64 (x3_1 + 1)), (by first | rfl | (simp; done) | (simp [*]; done)), H', ⟨by have := HK1.out; omega⟩, ⟨by repeat (first | (with_reducible first | exact HB.out | apply bA | apply bN | apply bD) | exact HB.out)⟩⟩
      ·rw [if_neg c8] at H
       have c8b0 : (t394 == x3_1) = false := beq_eq_false_iff_ne.mpr c8
       have c8b1 : (t394 != x3_1) = true := bne_iff_ne.mpr c8
       obtain rfl := Option.some.inj H
       have p393 : 0 ≤ (x3_1 : Int) := dT (by first | (with_reducible assumption) | assumption)
       have q393 : x3_1 < (l0.length : Int) := dT (by first | (with_reducible assumption) | assumption)
       obtain ⟨ad393, A393_4, c393_4, A393_5, c393_5, e393, hx393_0, hx393_1, hx393_2, hx393_3, hx393_4, hx393_5, hl393_4, hi393_4, hl393_5, hi393_5⟩ := at_T35 HR0.out x3_1 p393 q393
       cases e393
       replace hx393_0 := (HB.out.cell (wL w _ hx393_0)).trans hx393_0
       replace hx393_1 := (HB.out.cell (wL w _ hx393_1)).trans hx393_1
       replace hx393_2 := (HB.out.cell (wL w _ hx393_2)).trans hx393_2
       replace hx393_3 := (HB.out.cell (wL w _ hx393_3)).trans hx393_3
       replace hx393_4 := (HB.out.cell (wL w _ hx393_4)).trans hx393_4
       replace hx393_5 := (HB.out.cell (wL w _ hx393_5)).trans hx393_5
       have HR393_4 := A0m hi393_4
       have HC393_4 := A0m hl393_4
       clear hi393_4 hl393_4
       have HR393_5 := A0m hi393_5
       have HC393_5 := A0m hl393_5
       clear hi393_5 hl393_5
       replace p393 := eq_true p393
       replace q393 := eq_true q393
       go_wp2_with (first | ((with_reducible refine gate_callee (f := 12) rfl ?_); refine goesL_ (some 23) rfl rfl Tryz.func12 (by kernel_rfl) rfl #[.slice (some ad393) l0.length c0, .int .i64 ((rd_T35 l0 x3_1).f0)] rfl (by (try simp only [List.map_toArray, List.map_cons, List.map_nil]); first | done | rfl | (simp only [List.length_drop, List.length_take]; rfl)) ?_; (with_reducible refine (octroiref33_Find.calls k1 _ _ l0 ((rd_T35 l0 x3_1).f0) t394 _ ?side1 ?side2 A7.out).mono ?_); (case side1 => repeat (first | exact (Kd.C_below HR0.out HB.out) | (with_reducible refine Kd.C_alloc ?_ _) | (with_reducible refine Kd.C_drewN ?_ _) | (with_reducible refine Kd.C_drew ?_))); (case side2 => exact HC0.out); rintro e w' ⟨rfl, ⟨nd, rfl⟩⟩; refine ⟨_, rfl, ?_⟩))
       go_ret
       exact ⟨by first | rfl | (simp [errW_none, errW_some] <;> rfl) | (simp [*, errW_none, errW_some] <;> rfl), by repeat (first | (with_reducible first | exact HB.out | apply bA | apply bN | apply bD) | exact HB.out)⟩
     ·rw [if_neg c6] at H
      exact absurd H (by simp)
    ·rw [if_neg c5] at H
     have c5b0 : decide (x3_1 < (l0.length : Int)) = false := decide_eq_false c5
     clear c5
     have H' := A0m H
     clear H
     go_wp2
     go_loopg [4] k1 (fun kq v4 w' => ∃ (x4_2 : Int), v4 = .int .i64 x4_2 ∧ Aside0 (octroiref33_Check.l1 kq l0 x4_2 = some r) ∧ Aside0 (kq ≤ k1) ∧ Aside0 (Below w.heap.size w w'))
     case atStart => exact ⟨(0), (by first | rfl | (simp; done) | (simp [*]; done)), H', ⟨Nat.le_refl _⟩, ⟨by repeat (first | (with_reducible first | exact HB.out | apply bA | apply bN | apply bD) | exact HB.out)⟩⟩
     case round =>
      clear H'
      try clear c1
      try clear p2
      try clear c3
      try clear p3
      try clear q3
      try clear hx3
      try clear c5
      try clear c5b0
      try clear c6
      try clear c6b0
      try clear p6
      try clear c7
      try clear c8
      try clear c8b0
      try clear c8b1
      try clear hx393_0
      try clear hx393_1
      try clear hx393_2
      try clear hx393_3
      try clear hx393_4
      try clear hx393_5
      try clear p2
      try clear p393
      try clear q393
      obtain ⟨x4_2, rfl, HA, HK2, HB⟩ := hrel
      cases gk with
      | zero => exact absurd HA.out (by simp [octroiref33_Check.l1])
      | succ k2 =>
       have H := HA.out
       clear HA
       simp only [octroiref33_Check.l1] at H
       by_cases c9 : x4_2 < (l0.length : Int)
       ·rw [if_pos c9] at H
        have c9b0 : decide (x4_2 < (l0.length : Int)) = true := decide_eq_true c9
        clear c9
        by_cases c10 : 0 ≤ x4_2
        ·rw [if_pos c10] at H
         have c10b0 : decide (0 ≤ x4_2) = true := decide_eq_true c10
         clear c10
         replace H := Option.bind_eq_some_iff.mp H
         obtain ⟨t396, A110, H⟩ := H
         replace H : (octroiref33_Check.l2 k2 l0 x4_2 t396 0) = some r := H
         have A11 := A0m A110
         clear A110
         have H' := A0m H
         clear H
         have p395 : 0 ≤ (x4_2 : Int) := dT (by first | (with_reducible assumption) | assumption)
         have q395 : x4_2 < (l0.length : Int) := dT (by first | (with_reducible assumption) | assumption)
         obtain ⟨ad395, A395_4, c395_4, A395_5, c395_5, e395, hx395_0, hx395_1, hx395_2, hx395_3, hx395_4, hx395_5, hl395_4, hi395_4, hl395_5, hi395_5⟩ := at_T35 HR0.out x4_2 p395 q395
         cases e395
         replace hx395_0 := (HB.out.cell (wL w _ hx395_0)).trans hx395_0
         replace hx395_1 := (HB.out.cell (wL w _ hx395_1)).trans hx395_1
         replace hx395_2 := (HB.out.cell (wL w _ hx395_2)).trans hx395_2
         replace hx395_3 := (HB.out.cell (wL w _ hx395_3)).trans hx395_3
         replace hx395_4 := (HB.out.cell (wL w _ hx395_4)).trans hx395_4
         replace hx395_5 := (HB.out.cell (wL w _ hx395_5)).trans hx395_5
         have HR395_4 := A0m hi395_4
         have HC395_4 := A0m hl395_4
         clear hi395_4 hl395_4
         have HR395_5 := A0m hi395_5
         have HC395_5 := A0m hl395_5
         clear hi395_5 hl395_5
         replace p395 := eq_true p395
         replace q395 := eq_true q395
         go_wp2_with (first | ((with_reducible refine gate_callee (f := 31) rfl ?_); refine goesL_ (some 37) rfl rfl Tryz.func31 (by kernel_rfl) rfl #[.agg #[.int .i64 ((rd_T35 l0 x4_2).f1.f0), .int .i64 ((rd_T35 l0 x4_2).f1.f1), .string ((rd_T35 l0 x4_2).f1.f2), .slice A395_4 ((rd_T35 l0 x4_2).f1.f3).length c395_4, .slice A395_5 ((rd_T35 l0 x4_2).f1.f4).length c395_5]] rfl (by (try simp only [List.map_toArray, List.map_cons, List.map_nil]); first | done | rfl | (simp only [List.length_drop, List.length_take]; rfl)) ?_; (with_reducible refine (octroiref31_Refs.calls k2 ((rd_T35 l0 x4_2).f1.f0) ((rd_T35 l0 x4_2).f1.f1) ((rd_T35 l0 x4_2).f1.f2) _ _ ((rd_T35 l0 x4_2).f1.f3) _ _ ((rd_T35 l0 x4_2).f1.f4) t396 _ ?side1 ?side2 ?side3 ?side4 A11.out).mono ?_); (case side1 => repeat (first | exact (Kd.C_below HR395_4.out HB.out) | (with_reducible refine Kd.C_alloc ?_ _) | (with_reducible refine Kd.C_drewN ?_ _) | (with_reducible refine Kd.C_drew ?_))); (case side2 => exact HC395_4.out); (case side3 => repeat (first | exact (Kd.C_below HR395_5.out HB.out) | (with_reducible refine Kd.C_alloc ?_ _) | (with_reducible refine Kd.C_drewN ?_ _) | (with_reducible refine Kd.C_drew ?_))); (case side4 => exact HC395_5.out); rintro e w12 ⟨v397, rfl, ho0, hb⟩; refine ⟨_, rfl, ?_⟩; have n0_ := A0m (Kd.V_lower (Kd.V_mono (ok' := fun k_ => True) ho0 (fun k_ hk_ => trivial)) (below_size (by repeat (first | (with_reducible first | exact HB.out | apply bA | apply bN | apply bD) | exact HB.out)))); have n1_ := A0m (below_step (by repeat (first | (with_reducible first | exact HB.out | apply bA | apply bN | apply bD) | exact HB.out)) hb); clear HB; have HO398 := n0_; have HB := n1_; clear n0_ n1_; (try clear hb); (try clear hb2); (try clear hk); (try clear hi); (try clear ho0)))
         go_loopg [6] k2 (fun kq v6 w' => ∃ (x6_3 : Int), v6 = .int .i64 x6_3 ∧ Aside0 (octroiref33_Check.l2 kq l0 x4_2 t396 x6_3 = some r) ∧ Aside0 (kq ≤ k2) ∧ Aside0 (Kd.V (Kd.int .i64) 3 w' w.heap.size (fun _ => True) v397 t396) ∧ Aside0 (Below w.heap.size w w'))
         case atStart => exact ⟨(0), (by first | rfl | (simp; done) | (simp [*]; done)), H', ⟨Nat.le_refl _⟩, ⟨by (with_reducible repeat (first | apply Kd.V_alloc | apply Kd.V_drewN | apply Kd.V_drew)); exact HO398.out⟩, ⟨by repeat (first | (with_reducible first | exact HB.out | apply bA | apply bN | apply bD) | exact HB.out)⟩⟩
         case round =>
          clear H'
          try clear c1
          try clear p2
          try clear c3
          try clear p3
          try clear q3
          try clear hx3
          try clear c5
          try clear c5b0
          try clear c6
          try clear c6b0
          try clear p6
          try clear c7
          try clear c8
          try clear c8b0
          try clear c8b1
          try clear c9
          try clear c9b0
          try clear c10
          try clear c10b0
          try clear c12
          try clear hx393_0
          try clear hx393_1
          try clear hx393_2
          try clear hx393_3
          try clear hx393_4
          try clear hx393_5
          try clear hx395_0
          try clear hx395_1
          try clear hx395_2
          try clear hx395_3
          try clear hx395_4
          try clear hx395_5
          try clear p2
          try clear p3
          try clear p393
          try clear p395
          try clear p6
          try clear q3
          try clear q393
          try clear q395
          obtain ⟨x6_3, rfl, HA, HK3, HO_5, HB⟩ := hrel
          cases gk with
          | zero => exact absurd HA.out (by simp [octroiref33_Check.l2])
          | succ k3 =>
           have H := HA.out
           clear HA
           simp only [octroiref33_Check.l2] at H
           by_cases c13 : x6_3 < (t396.length : Int)
           ·rw [if_pos c13] at H
            have c13b0 : decide (x6_3 < (t396.length : Int)) = true := decide_eq_true c13
            clear c13
            by_cases c14 : 0 ≤ x6_3
            ·rw [if_pos c14] at H
             have c14b0 : decide (0 ≤ x6_3) = true := decide_eq_true c14
             clear c14
             replace H := Option.bind_eq_some_iff.mp H
             obtain ⟨t400, A150, H⟩ := H
             replace H : (if t400 < 0 then (some 83) else (octroiref33_Check.l2 k3 l0 x4_2 t396 (wrap64 (x6_3 + 1)))) = some r := H
             have A15 := A0m A150
             clear A150
             by_cases c16 : t400 < 0
             ·rw [if_pos c16] at H
              have c16b0 : decide (t400 < 0) = true := decide_eq_true c16
              clear c16
              obtain rfl := Option.some.inj H
              obtain ⟨Ao17, co17, eo17⟩ := Kd.V_slice HO_5.out
              subst eo17
              have p399 : 0 ≤ (x6_3 : Int) := dT (by first | (with_reducible assumption) | assumption)
              have q399 : x6_3 < (t396.length : Int) := dT (by first | (with_reducible assumption) | assumption)
              obtain ⟨ad399, e399, hx399_0⟩ := Kd.at_int (Kd.V_reads' HO_5.out).2.2 x6_3 p399 q399
              cases e399
              replace p399 := eq_true p399
              replace q399 := eq_true q399
              go_wp2_with (first | ((with_reducible refine gate_callee (f := 12) rfl ?_); refine goesL_ (some 49) rfl rfl Tryz.func12 (by kernel_rfl) rfl #[.slice (some ad395) l0.length c0, .int .i64 (rd t396 x6_3)] rfl (by (try simp only [List.map_toArray, List.map_cons, List.map_nil]); first | done | rfl | (simp only [List.length_drop, List.length_take]; rfl)) ?_; (with_reducible refine (octroiref33_Find.calls k3 _ _ l0 (rd t396 x6_3) t400 _ ?side1 ?side2 A15.out).mono ?_); (case side1 => repeat (first | exact (Kd.C_below HR0.out HB.out) | (with_reducible refine Kd.C_alloc ?_ _) | (with_reducible refine Kd.C_drewN ?_ _) | (with_reducible refine Kd.C_drew ?_))); (case side2 => exact HC0.out); rintro e w' ⟨rfl, ⟨nd, rfl⟩⟩; refine ⟨_, rfl, ?_⟩))
              go_ret
              exact ⟨by first | rfl | (simp [errW_none, errW_some] <;> rfl) | (simp [*, errW_none, errW_some] <;> rfl), by repeat (first | (with_reducible first | exact HB.out | apply bA | apply bN | apply bD) | exact HB.out)⟩
             ·rw [if_neg c16] at H
              have c16b0 : decide (t400 < 0) = false := decide_eq_false c16
              clear c16
              have H' := A0m H
              clear H
              obtain ⟨Ao18, co18, eo18⟩ := Kd.V_slice HO_5.out
              subst eo18
              have p399 : 0 ≤ (x6_3 : Int) := dT (by first | (with_reducible assumption) | assumption)
              have q399 : x6_3 < (t396.length : Int) := dT (by first | (with_reducible assumption) | assumption)
              obtain ⟨ad399, e399, hx399_0⟩ := Kd.at_int (Kd.V_reads' HO_5.out).2.2 x6_3 p399 q399
              cases e399
              replace p399 := eq_true p399
              replace q399 := eq_true q399
              go_wp2_with (first | ((with_reducible refine gate_callee (f := 12) rfl ?_); refine goesL_ (some 49) rfl rfl Tryz.func12 (by kernel_rfl) rfl #[.slice (some ad395) l0.length c0, .int .i64 (rd t396 x6_3)] rfl (by (try simp only [List.map_toArray, List.map_cons, List.map_nil]); first | done | rfl | (simp only [List.length_drop, List.length_take]; rfl)) ?_; (with_reducible refine (octroiref33_Find.calls k3 _ _ l0 (rd t396 x6_3) t400 _ ?side1 ?side2 A15.out).mono ?_); (case side1 => repeat (first | exact (Kd.C_below HR0.out HB.out) | (with_reducible refine Kd.C_alloc ?_ _) | (with_reducible refine Kd.C_drewN ?_ _) | (with_reducible refine Kd.C_drew ?_))); (case side2 => exact HC0.out); rintro e w' ⟨rfl, ⟨nd, rfl⟩⟩; refine ⟨_, rfl, ?_⟩))
              go_roundg k3
              case measure => have := HK1.out; have := HK2.out; have := HK3.out; omega
              case rel => exact ⟨(wrap64 (x6_3 + 1)), (by first | rfl | (simp; done) | (simp [*]; done)), H', ⟨by have := HK1.out; have := HK2.out; have := HK3.out; omega⟩, ⟨by (with_reducible repeat (first | apply Kd.V_alloc | apply Kd.V_drewN | apply Kd.V_drew)); exact HO_5.out⟩, ⟨by repeat (first | (with_reducible first | exact HB.out | apply bA | apply bN | apply bD) | exact HB.out)⟩⟩
            ·rw [if_neg c14] at H
             exact absurd H (by simp)
           ·rw [if_neg c13] at H
            have c13b0 : decide (x6_3 < (t396.length : Int)) = false := decide_eq_false c13
            clear c13
            have H' := A0m H
            clear H
            obtain ⟨Ao19, co19, eo19⟩ := Kd.V_slice HO_5.out
            subst eo19
            go_wp2
            go_roundg k3
            case measure => have := HK1.out; have := HK2.out; have := HK3.out; omega
            case rel => exact ⟨(wrap64 (x4_2 + 1)), (by first | rfl | (simp; done) | (simp [*]; done)), H', ⟨by have := HK1.out; have := HK2.out; have := HK3.out; omega⟩, ⟨by repeat (first | (with_reducible first | exact HB.out | apply bA | apply bN | apply bD) | exact HB.out)⟩⟩
        ·rw [if_neg c10] at H
         exact absurd H (by simp)
       ·rw [if_neg c9] at H
        have c9b0 : decide (x4_2 < (l0.length : Int)) = false := decide_eq_false c9
        clear c9
        have H' := A0m H
        clear H
        go_wp2
        go_loopg [7] k2 (fun kq v7 w' => ∃ (x7_3 : Int), v7 = .int .i64 x7_3 ∧ Aside0 (octroiref33_Check.l3 kq l0 x7_3 = some r) ∧ Aside0 (kq ≤ k2) ∧ Aside0 (Below w.heap.size w w'))
        case atStart => exact ⟨(0), (by first | rfl | (simp; done) | (simp [*]; done)), H', ⟨Nat.le_refl _⟩, ⟨by repeat (first | (with_reducible first | exact HB.out | apply bA | apply bN | apply bD) | exact HB.out)⟩⟩
        case round =>
         clear H'
         try clear c1
         try clear p2
         try clear c3
         try clear p3
         try clear q3
         try clear hx3
         try clear c5
         try clear c5b0
         try clear c6
         try clear c6b0
         try clear p6
         try clear c7
         try clear c8
         try clear c8b0
         try clear c8b1
         try clear c9
         try clear c9b0
         try clear c10
         try clear c10b0
         try clear c12
         try clear c13
         try clear c13b0
         try clear c14
         try clear c14b0
         try clear c16
         try clear c16b0
         try clear hx393_0
         try clear hx393_1
         try clear hx393_2
         try clear hx393_3
         try clear hx393_4
         try clear hx393_5
         try clear hx395_0
         try clear hx395_1
         try clear hx395_2
         try clear hx395_3
         try clear hx395_4
         try clear hx395_5
         try clear hx399_0
         try clear p2
         try clear p3
         try clear p393
         try clear p395
         try clear p399
         try clear p6
         try clear q3
         try clear q393
         try clear q395
         try clear q399
         obtain ⟨x7_3, rfl, HA, HK3, HB⟩ := hrel
         cases gk with
         | zero => exact absurd HA.out (by simp [octroiref33_Check.l3])
         | succ k3 =>
          have H := HA.out
          clear HA
          simp only [octroiref33_Check.l3] at H
          by_cases c20 : x7_3 < (l0.length : Int)
          ·rw [if_pos c20] at H
           have c20b0 : decide (x7_3 < (l0.length : Int)) = true := decide_eq_true c20
           clear c20
           by_cases c21 : 0 ≤ x7_3
           ·rw [if_pos c21] at H
            have c21b0 : decide (0 ≤ x7_3) = true := decide_eq_true c21
            clear c21
            replace H := Option.bind_eq_some_iff.mp H
            obtain ⟨t402, A220, H⟩ := H
            replace H : (if t402 = true then (octroiref33_Check.l3 k3 l0 (wrap64 (x7_3 + 1))) else (some 80)) = some r := H
            have A22 := A0m A220
            clear A220
            by_cases c23 : t402 = true
            ·subst c23
             have H1 : (octroiref33_Check.l3 k3 l0 (wrap64 (x7_3 + 1))) = some r := by rw [if_pos rfl] at H; exact H
             clear H
             have H := H1
             clear H1
             have H' := A0m H
             clear H
             have p401 : 0 ≤ (x7_3 : Int) := dT (by first | (with_reducible assumption) | assumption)
             have q401 : x7_3 < (l0.length : Int) := dT (by first | (with_reducible assumption) | assumption)
             obtain ⟨ad401, A401_4, c401_4, A401_5, c401_5, e401, hx401_0, hx401_1, hx401_2, hx401_3, hx401_4, hx401_5, hl401_4, hi401_4, hl401_5, hi401_5⟩ := at_T35 HR0.out x7_3 p401 q401
             cases e401
             replace hx401_0 := (HB.out.cell (wL w _ hx401_0)).trans hx401_0
             replace hx401_1 := (HB.out.cell (wL w _ hx401_1)).trans hx401_1
             replace hx401_2 := (HB.out.cell (wL w _ hx401_2)).trans hx401_2
             replace hx401_3 := (HB.out.cell (wL w _ hx401_3)).trans hx401_3
             replace hx401_4 := (HB.out.cell (wL w _ hx401_4)).trans hx401_4
             replace hx401_5 := (HB.out.cell (wL w _ hx401_5)).trans hx401_5
             have HR401_4 := A0m hi401_4
             have HC401_4 := A0m hl401_4
             clear hi401_4 hl401_4
             have HR401_5 := A0m hi401_5
             have HC401_5 := A0m hl401_5
             clear hi401_5 hl401_5
             replace p401 := eq_true p401
             replace q401 := eq_true q401
             go_wp2_with (first | ((with_reducible refine gate_callee (f := 10) rfl ?_); refine goesL_ (some 62) rfl rfl Tryz.func10 (by kernel_rfl) rfl #[.agg #[.int .i64 ((rd_T35 l0 x7_3).f1.f0), .int .i64 ((rd_T35 l0 x7_3).f1.f1), .string ((rd_T35 l0 x7_3).f1.f2), .slice A401_4 ((rd_T35 l0 x7_3).f1.f3).length c401_4, .slice A401_5 ((rd_T35 l0 x7_3).f1.f4).length c401_5]] rfl (by (try simp only [List.map_toArray, List.map_cons, List.map_nil]); first | done | rfl | (simp only [List.length_drop, List.length_take]; rfl)) ?_; (with_reducible refine (octroiref33_Names.calls k3 ((rd_T35 l0 x7_3).f1.f0) ((rd_T35 l0 x7_3).f1.f1) ((rd_T35 l0 x7_3).f1.f2) _ _ ((rd_T35 l0 x7_3).f1.f3) _ _ ((rd_T35 l0 x7_3).f1.f4) true _ ?side1 ?side2 ?side3 ?side4 A22.out).mono ?_); (case side1 => repeat (first | exact (Kd.C_below HR401_4.out HB.out) | (with_reducible refine Kd.C_alloc ?_ _) | (with_reducible refine Kd.C_drewN ?_ _) | (with_reducible refine Kd.C_drew ?_))); (case side2 => exact HC401_4.out); (case side3 => repeat (first | exact (Kd.C_below HR401_5.out HB.out) | (with_reducible refine Kd.C_alloc ?_ _) | (with_reducible refine Kd.C_drewN ?_ _) | (with_reducible refine Kd.C_drew ?_))); (case side4 => exact HC401_5.out); rintro e w24 ⟨rfl, hb⟩; refine ⟨_, rfl, ?_⟩; have n0_ := A0m (below_step (by repeat (first | (with_reducible first | exact HB.out | apply bA | apply bN | apply bD) | exact HB.out)) hb); clear HB; have HB := n0_; clear n0_; (try clear hb); (try clear hb2); (try clear hk); (try clear hi)))
             go_roundg k3
             case measure => have := HK1.out; have := HK2.out; have := HK3.out; omega
             case rel => exact ⟨(wrap64 (x7_3 + 1)), (by first | rfl | (simp; done) | (simp [*]; done)), H', ⟨by have := HK1.out; have := HK2.out; have := HK3.out; omega⟩, ⟨by repeat (first | (with_reducible first | exact HB.out | apply bA | apply bN | apply bD) | exact HB.out)⟩⟩
            ·replace c23 := Bool.eq_false_iff.mpr c23
             subst c23
             have H1 : (some 80) = some r := by rw [if_neg (show ¬ (false = true) by decide)] at H; exact H
             clear H
             have H := H1
             clear H1
             obtain rfl := Option.some.inj H
             have p401 : 0 ≤ (x7_3 : Int) := dT (by first | (with_reducible assumption) | assumption)
             have q401 : x7_3 < (l0.length : Int) := dT (by first | (with_reducible assumption) | assumption)
             obtain ⟨ad401, A401_4, c401_4, A401_5, c401_5, e401, hx401_0, hx401_1, hx401_2, hx401_3, hx401_4, hx401_5, hl401_4, hi401_4, hl401_5, hi401_5⟩ := at_T35 HR0.out x7_3 p401 q401
             cases e401
             replace hx401_0 := (HB.out.cell (wL w _ hx401_0)).trans hx401_0
             replace hx401_1 := (HB.out.cell (wL w _ hx401_1)).trans hx401_1
             replace hx401_2 := (HB.out.cell (wL w _ hx401_2)).trans hx401_2
             replace hx401_3 := (HB.out.cell (wL w _ hx401_3)).trans hx401_3
             replace hx401_4 := (HB.out.cell (wL w _ hx401_4)).trans hx401_4
             replace hx401_5 := (HB.out.cell (wL w _ hx401_5)).trans hx401_5
             have HR401_4 := A0m hi401_4
             have HC401_4 := A0m hl401_4
             clear hi401_4 hl401_4
             have HR401_5 := A0m hi401_5
             have HC401_5 := A0m hl401_5
             clear hi401_5 hl401_5
             replace p401 := eq_true p401
             replace q401 := eq_true q401
             go_wp2_with (first | ((with_reducible refine gate_callee (f := 10) rfl ?_); refine goesL_ (some 62) rfl rfl Tryz.func10 (by kernel_rfl) rfl #[.agg #[.int .i64 ((rd_T35 l0 x7_3).f1.f0), .int .i64 ((rd_T35 l0 x7_3).f1.f1), .string ((rd_T35 l0 x7_3).f1.f2), .slice A401_4 ((rd_T35 l0 x7_3).f1.f3).length c401_4, .slice A401_5 ((rd_T35 l0 x7_3).f1.f4).length c401_5]] rfl (by (try simp only [List.map_toArray, List.map_cons, List.map_nil]); first | done | rfl | (simp only [List.length_drop, List.length_take]; rfl)) ?_; (with_reducible refine (octroiref33_Names.calls k3 ((rd_T35 l0 x7_3).f1.f0) ((rd_T35 l0 x7_3).f1.f1) ((rd_T35 l0 x7_3).f1.f2) _ _ ((rd_T35 l0 x7_3).f1.f3) _ _ ((rd_T35 l0 x7_3).f1.f4) false _ ?side1 ?side2 ?side3 ?side4 A22.out).mono ?_); (case side1 => repeat (first | exact (Kd.C_below HR401_4.out HB.out) | (with_reducible refine Kd.C_alloc ?_ _) | (with_reducible refine Kd.C_drewN ?_ _) | (with_reducible refine Kd.C_drew ?_))); (case side2 => exact HC401_4.out); (case side3 => repeat (first | exact (Kd.C_below HR401_5.out HB.out) | (with_reducible refine Kd.C_alloc ?_ _) | (with_reducible refine Kd.C_drewN ?_ _) | (with_reducible refine Kd.C_drew ?_))); (case side4 => exact HC401_5.out); rintro e w25 ⟨rfl, hb⟩; refine ⟨_, rfl, ?_⟩; have n0_ := A0m (below_step (by repeat (first | (with_reducible first | exact HB.out | apply bA | apply bN | apply bD) | exact HB.out)) hb); clear HB; have HB := n0_; clear n0_; (try clear hb); (try clear hb2); (try clear hk); (try clear hi)))
             go_ret
             exact ⟨by first | rfl | (simp [errW_none, errW_some] <;> rfl) | (simp [*, errW_none, errW_some] <;> rfl), by repeat (first | (with_reducible first | exact HB.out | apply bA | apply bN | apply bD) | exact HB.out)⟩
           ·rw [if_neg c21] at H
            exact absurd H (by simp)
          ·rw [if_neg c20] at H
           have c20b0 : decide (x7_3 < (l0.length : Int)) = false := decide_eq_false c20
           clear c20
           replace H := Option.bind_eq_some_iff.mp H
           obtain ⟨t403, A260, H⟩ := H
           replace H : (if (t403.length : Int) < (l0.length : Int) then (some 84) else (some 0)) = some r := H
           have A26 := A0m A260
           clear A260
           by_cases c27 : (t403.length : Int) < (l0.length : Int)
           ·rw [if_pos c27] at H
            have c27b0 : decide ((t403.length : Int) < (l0.length : Int)) = true := decide_eq_true c27
            have c27b1 : decide (t403.length < l0.length) = true := decide_eq_true (Int.ofNat_lt.mp c27)
            clear c27
            obtain rfl := Option.some.inj H
            go_wp2_with (first | ((with_reducible refine gate_callee (f := 16) rfl ?_); refine goesL_ (some 65) rfl rfl Tryz.func16 (by kernel_rfl) rfl #[.slice A0 l0.length c0] rfl (by (try simp only [List.map_toArray, List.map_cons, List.map_nil]); first | done | rfl | (simp only [List.length_drop, List.length_take]; rfl)) ?_; (with_reducible refine (octroiref33_Order.calls k3 _ _ l0 t403 _ ?side1 ?side2 A26.out).mono ?_); (case side1 => repeat (first | exact (Kd.C_below HR0.out HB.out) | (with_reducible refine Kd.C_alloc ?_ _) | (with_reducible refine Kd.C_drewN ?_ _) | (with_reducible refine Kd.C_drew ?_))); (case side2 => exact HC0.out); rintro e w28 ⟨v404, rfl, ho0, hb⟩; refine ⟨_, rfl, ?_⟩; have n0_ := A0m (Kd.R_lower ho0 (below_size (by repeat (first | (with_reducible first | exact HB.out | apply bA | apply bN | apply bD) | exact HB.out)))); have n1_ := A0m (below_step (by repeat (first | (with_reducible first | exact HB.out | apply bA | apply bN | apply bD) | exact HB.out)) hb); clear HB; have HO405 := n0_; have HB := n1_; clear n0_ n1_; (try clear hb); (try clear hb2); (try clear hk); (try clear hi); (try clear ho0); obtain ⟨Ao29, co29, eo29⟩ := Kd.R_slice HO405.out; subst eo29))
            go_ret
            exact ⟨by first | rfl | (simp [errW_none, errW_some] <;> rfl) | (simp [*, errW_none, errW_some] <;> rfl), by repeat (first | (with_reducible first | exact HB.out | apply bA | apply bN | apply bD) | exact HB.out)⟩
           ·rw [if_neg c27] at H
            have c27b0 : decide ((t403.length : Int) < (l0.length : Int)) = false := decide_eq_false c27
            have c27b1 : decide (t403.length < l0.length) = false := decide_eq_false (fun h => c27 (Int.ofNat_lt.mpr h))
            clear c27
            obtain rfl := Option.some.inj H
            go_wp2_with (first | ((with_reducible refine gate_callee (f := 16) rfl ?_); refine goesL_ (some 65) rfl rfl Tryz.func16 (by kernel_rfl) rfl #[.slice A0 l0.length c0] rfl (by (try simp only [List.map_toArray, List.map_cons, List.map_nil]); first | done | rfl | (simp only [List.length_drop, List.length_take]; rfl)) ?_; (with_reducible refine (octroiref33_Order.calls k3 _ _ l0 t403 _ ?side1 ?side2 A26.out).mono ?_); (case side1 => repeat (first | exact (Kd.C_below HR0.out HB.out) | (with_reducible refine Kd.C_alloc ?_ _) | (with_reducible refine Kd.C_drewN ?_ _) | (with_reducible refine Kd.C_drew ?_))); (case side2 => exact HC0.out); rintro e w30 ⟨v404, rfl, ho0, hb⟩; refine ⟨_, rfl, ?_⟩; have n0_ := A0m (Kd.R_lower ho0 (below_size (by repeat (first | (with_reducible first | exact HB.out | apply bA | apply bN | apply bD) | exact HB.out)))); have n1_ := A0m (below_step (by repeat (first | (with_reducible first | exact HB.out | apply bA | apply bN | apply bD) | exact HB.out)) hb); clear HB; have HO405 := n0_; have HB := n1_; clear n0_ n1_; (try clear hb); (try clear hb2); (try clear hk); (try clear hi); (try clear ho0); obtain ⟨Ao31, co31, eo31⟩ := Kd.R_slice HO405.out; subst eo31))
            go_ret
            exact ⟨by first | rfl | (simp [errW_none, errW_some] <;> rfl) | (simp [*, errW_none, errW_some] <;> rfl), by repeat (first | (with_reducible first | exact HB.out | apply bA | apply bN | apply bD) | exact HB.out)⟩
 ·replace c3 := Bool.eq_false_iff.mpr c3
  subst c3
  have H1 : (some 2) = some r := by rw [if_neg (show ¬ (false = true) by decide)] at H; exact H
  clear H
  have H := H1
  clear H1
  obtain rfl := Option.some.inj H
  go_enter Tryz.func7, Tryz.ntmps7
  go_wp2_with (first | ((with_reducible refine gate_callee (f := 30) rfl ?_); refine goesL_ (some 9) rfl rfl Tryz.func30 (by kernel_rfl) rfl #[.slice A0 l0.length c0] rfl (by (try simp only [List.map_toArray, List.map_cons, List.map_nil]); first | done | rfl | (simp only [List.length_drop, List.length_take]; rfl)) ?_; (with_reducible refine (octroiref31_Good.calls k _ _ l0 false _ ?side1 ?side2 A2.out).mono ?_); (case side1 => repeat (first | exact HR0.out | (with_reducible refine Kd.C_alloc ?_ _) | (with_reducible refine Kd.C_drewN ?_ _) | (with_reducible refine Kd.C_drew ?_))); (case side2 => exact HC0.out); rintro e w32 ⟨rfl, hb⟩; refine ⟨_, rfl, ?_⟩; have n0_ := A0m (below_step (by repeat (first | (with_reducible first | exact HB.out | apply bA | apply bN | apply bD) | exact HB.out)) hb); clear HB; have HB := n0_; clear n0_; (try clear hb); (try clear hb2); (try clear hk); (try clear hi)))
  go_ret
  exact ⟨by first | rfl | (simp [errW_none, errW_some] <;> rfl) | (simp [*, errW_none, errW_some] <;> rfl), by repeat (first | (with_reducible first | exact HB.out | apply bA | apply bN | apply bD) | exact HB.out)⟩

/-! ### slices_Index_string_string: function 60 -/

/-! ### slices_Contains_string_string: function 35 -/

/-! ### entry_Fields: function 37 -/

-- NOT PRINTED: function 9 (checker_Names)

-- NOT PRINTED: function 11 (checker_Plan_Find)

-- NOT PRINTED: function 13 (checker_Plan_Len)

-- NOT PRINTED: function 44 (checker_Plan_has)

-- NOT PRINTED: function 17 (checker_Plan_Box)

-- NOT PRINTED: function 18 (checker_Plan_Needs)

end Go.Proofs.YtmkalnljclhigaaGreat.XCheckerChecks
