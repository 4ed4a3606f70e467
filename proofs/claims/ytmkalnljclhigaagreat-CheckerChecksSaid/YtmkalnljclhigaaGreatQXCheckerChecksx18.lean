-- WRITTEN BY wip/xprint.py (my own wrapper round the print, with contracts of my own in it)
import Derived.Test.YtmkalnljclhigaaGreatQXCheckerChecksx0
import Derived.Test.YtmkalnljclhigaaGreatQXCheckerChecksx12
import Derived.Test.YtmkalnljclhigaaGreatQXCheckerChecksx15
import Derived.Test.YtmkalnljclhigaaGreatQXCheckerChecksx17
namespace Go.Proofs.YtmkalnljclhigaaGreat.XCheckerChecks
open Go.RowKit Go.Proofs.YtmkalnljclhigaaGreatW.PrintWords Go.Proofs.YtmkalnljclhigaaGreatW.PrintLast Go.Proofs.YtmkalnljclhigaaGreatW.PrintMore
attribute [local go_sem] max2_int min2_int max_two min_two max_three min_three max_four min_four   -- for this text's walks alone
set_option linter.unusedVariables false
set_option linter.unusedSimpArgs false

/-! ### octroiref33_Order: function 16 -/
mutual
def octroiref33_Order.l0 : Nat → List (S35) → List Bool → List Int → Int → Option (List Int)
 | 0, _, _, _, _ => none
 | k + 1, x0, x3, x4, x5 => if x5 < (x0.length : Int) then (octroiref33_Order.l1 k x0 x3 x4 x5 (-1) 0) else (some x4)
def octroiref33_Order.l1 : Nat → List (S35) → List Bool → List Int → Int → Int → Int → Option (List Int)
 | 0, _, _, _, _, _, _ => none
 | k + 1, x0, x3, x4, x5, x6, x7 => if x7 < (x0.length : Int) then (octroiref33_Order.j2 k x0 x3 x4 x5 x6 x7 (decide (x6 < 0))) else (octroiref33_Order.j2 k x0 x3 x4 x5 x6 x7 false)
def octroiref33_Order.j2 : Nat → List (S35) → List Bool → List Int → Int → Int → Int → Bool → Option (List Int)
 | 0, _, _, _, _, _, _, _ => none
 | k + 1, x0, x3, x4, x5, x6, x7, x24 => if x24 = true then (if 0 ≤ x7 then (if x7 < (x3.length : Int) then (if rdOf false x3 x7 = true then (octroiref33_Order.l1 k x0 x3 x4 x5 x6 (wrap64 (x7 + 1))) else ((octroiref33_Needs.f k x0 x7).bind fun t384 => ((octroiref33_all.f k t384 x3).bind fun t387 => (if t387 = true then (octroiref33_Order.l1 k x0 x3 x4 x5 x7 (wrap64 (x7 + 1))) else (octroiref33_Order.l1 k x0 x3 x4 x5 x6 (wrap64 (x7 + 1))))))) else (none)) else (none)) else (if x6 < 0 then (some x4) else (if 0 ≤ x6 then (if x6 < (x3.length : Int) then (if x4.length < 17592186044416 then (octroiref33_Order.l0 k x0 (x3.set (x6 : Int).toNat true) (x4 ++ [x6]) (wrap64 (x5 + 1))) else (none)) else (none)) else (none)))
end
def octroiref33_Order.f (k : Nat) (l0 : List (S35)) : Option (List Int) := if 0 ≤ (l0.length : Int) then (if ((l0.length : Int) : Int).toNat ≤ 281474976710656 then (octroiref33_Order.l0 k l0 (List.replicate ((l0.length : Int) : Int).toNat false) ([] : List Int) 0) else (none)) else (none)
theorem octroiref33_Order.mono_l : ∀ k, (∀ y0 y1 y2 y3, LeO (octroiref33_Order.l0 k y0 y1 y2 y3) (octroiref33_Order.l0 (k + 1) y0 y1 y2 y3)) ∧ (∀ y0 y1 y2 y3 y4 y5, LeO (octroiref33_Order.l1 k y0 y1 y2 y3 y4 y5) (octroiref33_Order.l1 (k + 1) y0 y1 y2 y3 y4 y5)) ∧ (∀ y0 y1 y2 y3 y4 y5 y6, LeO (octroiref33_Order.j2 k y0 y1 y2 y3 y4 y5 y6) (octroiref33_Order.j2 (k + 1) y0 y1 y2 y3 y4 y5 y6))
 | 0 => ⟨fun _ _ _ _ r h => by simp [octroiref33_Order.l0] at h, fun _ _ _ _ _ _ r h => by simp [octroiref33_Order.l1] at h, fun _ _ _ _ _ _ _ r h => by simp [octroiref33_Order.j2] at h⟩
 | k + 1 => by
  obtain ⟨ih0, ih1, ih2⟩ := octroiref33_Order.mono_l k
  refine ⟨?_, ?_, ?_⟩
  ·intro y0 y1 y2 y3
   unfold octroiref33_Order.l0
   repeat' first
   | (with_reducible exact ih0 _ _ _ _)
   | (with_reducible exact ih1 _ _ _ _ _ _)
   | (with_reducible exact ih2 _ _ _ _ _ _ _)
   | (with_reducible exact octroiref33_Needs.mono _ _ _)
   | (with_reducible exact octroiref33_all.mono _ _ _)
   | (with_reducible exact LeO.refl _)
   | (with_reducible exact LeO.none _)
   | (with_reducible refine LeO.ite ?_ ?_)
   | (with_reducible refine LeO.bind ?_ (fun _ => ?_))
   | exact ih0 _ _ _ _
   | exact ih1 _ _ _ _ _ _
   | exact ih2 _ _ _ _ _ _ _
   | exact octroiref33_Needs.mono _ _ _
   | exact octroiref33_all.mono _ _ _
   | exact LeO.none _
   | refine LeO.ite ?_ ?_
   | refine LeO.bind ?_ (fun _ => ?_)
  ·intro y0 y1 y2 y3 y4 y5
   unfold octroiref33_Order.l1
   repeat' first
   | (with_reducible exact ih0 _ _ _ _)
   | (with_reducible exact ih1 _ _ _ _ _ _)
   | (with_reducible exact ih2 _ _ _ _ _ _ _)
   | (with_reducible exact octroiref33_Needs.mono _ _ _)
   | (with_reducible exact octroiref33_all.mono _ _ _)
   | (with_reducible exact LeO.refl _)
   | (with_reducible exact LeO.none _)
   | (with_reducible refine LeO.ite ?_ ?_)
   | (with_reducible refine LeO.bind ?_ (fun _ => ?_))
   | exact ih0 _ _ _ _
   | exact ih1 _ _ _ _ _ _
   | exact ih2 _ _ _ _ _ _ _
   | exact octroiref33_Needs.mono _ _ _
   | exact octroiref33_all.mono _ _ _
   | exact LeO.none _
   | refine LeO.ite ?_ ?_
   | refine LeO.bind ?_ (fun _ => ?_)
  ·intro y0 y1 y2 y3 y4 y5 y6
   unfold octroiref33_Order.j2
   repeat' first
   | (with_reducible exact ih0 _ _ _ _)
   | (with_reducible exact ih1 _ _ _ _ _ _)
   | (with_reducible exact ih2 _ _ _ _ _ _ _)
   | (with_reducible exact octroiref33_Needs.mono _ _ _)
   | (with_reducible exact octroiref33_all.mono _ _ _)
   | (with_reducible exact LeO.refl _)
   | (with_reducible exact LeO.none _)
   | (with_reducible refine LeO.ite ?_ ?_)
   | (with_reducible refine LeO.bind ?_ (fun _ => ?_))
   | exact ih0 _ _ _ _
   | exact ih1 _ _ _ _ _ _
   | exact ih2 _ _ _ _ _ _ _
   | exact octroiref33_Needs.mono _ _ _
   | exact octroiref33_all.mono _ _ _
   | exact LeO.none _
   | refine LeO.ite ?_ ?_
   | refine LeO.bind ?_ (fun _ => ?_)
theorem octroiref33_Order.mono : ∀ a0 k, LeO (octroiref33_Order.f k a0) (octroiref33_Order.f (k + 1) a0) := by
 intro a0 k
 obtain ⟨ih0, ih1, ih2⟩ := octroiref33_Order.mono_l k
 unfold octroiref33_Order.f
 repeat' first
   | (with_reducible exact ih0 _ _ _ _)
   | (with_reducible exact ih1 _ _ _ _ _ _)
   | (with_reducible exact ih2 _ _ _ _ _ _ _)
   | (with_reducible exact octroiref33_Needs.mono _ _ _)
   | (with_reducible exact octroiref33_all.mono _ _ _)
   | (with_reducible exact LeO.refl _)
   | (with_reducible exact LeO.none _)
   | (with_reducible refine LeO.ite ?_ ?_)
   | (with_reducible refine LeO.bind ?_ (fun _ => ?_))
   | exact ih0 _ _ _ _
   | exact ih1 _ _ _ _ _ _
   | exact ih2 _ _ _ _ _ _ _
   | exact octroiref33_Needs.mono _ _ _
   | exact octroiref33_all.mono _ _ _
   | exact LeO.none _
   | refine LeO.ite ?_ ?_
   | refine LeO.bind ?_ (fun _ => ?_)
set_option maxHeartbeats 8000000 in
set_option maxRecDepth 100000 in
theorem octroiref33_Order.calls (k : Nat) (A0 : Option Addr) (c0 : Nat) (l0 : List (S35)) (r : List Int) (w : World) (hr0 : Kd.C k35 w A0 l0.length l0) (hc0 : l0.length ≤ c0) (h : octroiref33_Order.f k l0 = some r) :
  Calls Tryz.prog 16 #[.slice A0 l0.length c0] w fun e w' => ∃ v0_ : Value, e = .returned (v0_) ∧ Kd.R (Kd.int .i64) 3 w' w.heap.size (fun _ => True) v0_ r ∧ Below w.heap.size w w' := by
 have HR0 := A0m hr0
 have HC0 := A0m hc0
 clear hr0 hc0
 have HB := A0m (Below.refl w.heap.size w)
 have H : (if 0 ≤ (l0.length : Int) then (if ((l0.length : Int) : Int).toNat ≤ 281474976710656 then (octroiref33_Order.l0 k l0 (List.replicate ((l0.length : Int) : Int).toNat false) ([] : List Int) 0) else (none)) else (none)) = some r := h
 clear h
 by_cases c2 : 0 ≤ (l0.length : Int)
 ·rw [if_pos c2] at H
  have c2b0 := eq_true c2
  have c2b1 : decide (0 ≤ (l0.length : Int)) = true := decide_eq_true c2
  clear c2
  by_cases c3 : ((l0.length : Int) : Int).toNat ≤ 281474976710656
  ·rw [if_pos c3] at H
   have c3b0 := eq_true c3
   have c3b1 : decide (((l0.length : Int) : Int).toNat ≤ 281474976710656) = true := decide_eq_true c3
   clear c3
   obtain ⟨y376, hy376⟩ : ∃ y_ : List Bool, y_ = (List.replicate ((l0.length : Int) : Int).toNat false) := ⟨_, rfl⟩
   replace H : (octroiref33_Order.l0 k l0 y376 ([] : List Int) 0) = some r := by first | (rw [hy376]; with_reducible exact H) | (have H2_ := (Option.bind_some _ _).symm.trans H; rw [hy376]; with_reducible exact H2_) | (have H2_ := (Option.bind_some _ _).symm.trans H; with_reducible exact H2_) | with_reducible exact H | (rw [hy376]; exact H) | exact H
   have Ny376 := A0m hy376
   clear hy376
   have H' := A0m H
   clear H
   go_enter Tryz.func16, Tryz.ntmps16
   go_wp2_with (first | ((with_reducible refine gate_dst (N := 10) rfl ?_); refine Kd.R_make Kd.bool _ 4 rfl (N := 10) rfl 74 _ _ rfl (l0.length : Int) rfl rfl Tryz.underlying74 (.bool false) 1 info4 rfl (by decide) (by omega) false (ok := fun _ => True) (okp := fun _ => True) rfl (fun _ hk => hk) trivial (dT (by first | (with_reducible assumption) | assumption)) (Nat.le_trans (Nat.mul_le_mul_right _ (dT (by first | (with_reducible assumption) | assumption) : (l0.length : Int).toNat ≤ 281474976710656)) (by omega)) (Below.refl _ _) (Nat.le_refl _) ?_; intro v377 w4 ho5 hb hg_ hnew_; clear hg_ hnew_; (first | rw [← Ny376.out] at ho5 | (simp only [Int.reduceToNat] at ho5; rw [← Ny376.out] at ho5)); have n0_ := A0m (Kd.R_lower ho5 (below_size (by repeat (first | (with_reducible first | exact HB.out | apply bA | apply bN | apply bD) | exact HB.out)))); have n1_ := A0m (below_step (by repeat (first | (with_reducible first | exact HB.out | apply bA | apply bN | apply bD) | exact HB.out)) hb); clear HB; have HO378 := n0_; have HB := n1_; clear n0_ n1_; clear hb ho5))
   go_loopg [4, 5] k (fun kq v4 v5 w' => ∃ (x3_1 : List Bool) (x4_1 : List Int) (x5_1 : Int), v5 = .int .i64 x5_1 ∧ Aside0 (octroiref33_Order.l0 kq l0 x3_1 x4_1 x5_1 = some r) ∧ Aside0 (kq ≤ k) ∧ Aside0 (Kd.R Kd.bool 4 w' w.heap.size (fun _ => True) v377 x3_1) ∧ Aside0 (Kd.R (Kd.int .i64) 3 w' w.heap.size (fun _ => True) v4 x4_1) ∧ Aside0 (Below w.heap.size w w'))
   case atStart => exact ⟨(y376), (([] : List Int)), (0), (by first | rfl | (simp; done) | (simp [*]; done)), H', ⟨Nat.le_refl _⟩, ⟨by (with_reducible repeat (first | apply rA | apply rN | apply rD)); exact HO378.out⟩, ⟨by first | exact Kd.R_nil _ _ _ _ _ | exact Kd.N_nil _ _ _ _ _ | exact Kd.V_nil _ _ _ _ _ | exact Kd.Q_nil _ _ _ _ _ | exact Kd.S_nil _ _ _ _ _⟩, ⟨by repeat (first | (with_reducible first | exact HB.out | apply bA | apply bN | apply bD) | exact HB.out)⟩⟩
   case round =>
    clear H'
    try clear c1
    try clear c2
    try clear c2b0
    try clear c2b1
    try clear p2
    try clear c3
    try clear c3b0
    try clear c3b1
    obtain ⟨x3_1, x4_1, x5_1, rfl, HA, HK1, HO_3, HO_4, HB⟩ := hrel
    cases gk with
    | zero => exact absurd HA.out (by simp [octroiref33_Order.l0])
    | succ k1 =>
     have H := HA.out
     clear HA
     simp only [octroiref33_Order.l0] at H
     by_cases c6 : x5_1 < (l0.length : Int)
     ·rw [if_pos c6] at H
      have c6b0 : decide (x5_1 < (l0.length : Int)) = true := decide_eq_true c6
      clear c6
      have H' := A0m H
      clear H
      go_wp2
      go_loopg [6, 7] k1 (fun kq v6 v7 w' => ∃ (x6_2 : Int) (x7_2 : Int), v6 = .int .i64 x6_2 ∧ v7 = .int .i64 x7_2 ∧ Aside0 (octroiref33_Order.l1 kq l0 x3_1 x4_1 x5_1 x6_2 x7_2 = some r) ∧ Aside0 (kq ≤ k1) ∧ Aside0 (Kd.R Kd.bool 4 w' w.heap.size (fun _ => True) v377 x3_1) ∧ Aside0 (Kd.R (Kd.int .i64) 3 w' w.heap.size (fun _ => True) u4 x4_1) ∧ Aside0 (Below w.heap.size w w'))
      case atStart => exact ⟨((-1)), (0), (by first | rfl | (simp; done) | (simp [*]; done)), (by first | rfl | (simp; done) | (simp [*]; done)), H', ⟨Nat.le_refl _⟩, ⟨by (with_reducible repeat (first | apply rA | apply rN | apply rD)); exact HO_3.out⟩, ⟨by (with_reducible repeat (first | apply rA | apply rN | apply rD)); exact HO_4.out⟩, ⟨by repeat (first | (with_reducible first | exact HB.out | apply bA | apply bN | apply bD) | exact HB.out)⟩⟩
      case round =>
       clear H'
       try clear c1
       try clear c2
       try clear c2b0
       try clear c2b1
       try clear p2
       try clear c3
       try clear c3b0
       try clear c3b1
       try clear c6
       try clear c6b0
       try clear p2
       obtain ⟨x6_2, x7_2, rfl, rfl, HA, HK2, HO_3, HO_4, HB⟩ := hrel
       cases gk with
       | zero => exact absurd HA.out (by simp [octroiref33_Order.l1])
       | succ k2 =>
        have H := HA.out
        clear HA
        simp only [octroiref33_Order.l1] at H
        have HC7 := A0m H
        clear H
        go_upto_region 8 with (fail)
        go_cut [24] (fun v24 wc => ∃ (kq : Nat) (x24_6 : Bool), v24 = .bool x24_6 ∧ Aside0 (octroiref33_Order.j2 kq l0 x3_1 x4_1 x5_1 x6_2 x7_2 x24_6 = some r) ∧ Aside0 (kq ≤ k2) ∧ Aside0 (Kd.R Kd.bool 4 wc w.heap.size (fun _ => True) v377 x3_1) ∧ Aside0 (Kd.R (Kd.int .i64) 3 wc w.heap.size (fun _ => True) u4 x4_1) ∧ Aside0 (Below w.heap.size w wc))
        case first =>
         have H := HC7.out
         clear HC7
         by_cases c8 : x7_2 < (l0.length : Int)
         ·rw [if_pos c8] at H
          have c8b0 : decide (x7_2 < (l0.length : Int)) = true := decide_eq_true c8
          clear c8
          (first | rw [c8b0] | (simp only [i64_w, i32_w]; rw [c8b0]) | skip)
          have H' := A0m H
          clear H
          go_wp2
          go_meet
          case rel => exact ⟨_, (decide (x6_2 < 0)), (by first | rfl | (simp; done) | (simp [*]; done)), H', ⟨by have := HK1.out; have := HK2.out; first | omega | exact Nat.le_refl _⟩, ⟨by (with_reducible repeat (first | apply rA | apply rN | apply rD)); exact HO_3.out⟩, ⟨by (with_reducible repeat (first | apply rA | apply rN | apply rD)); exact HO_4.out⟩, ⟨by repeat (first | (with_reducible first | exact HB.out | apply bA | apply bN | apply bD) | exact HB.out)⟩⟩
         ·rw [if_neg c8] at H
          have c8b0 : decide (x7_2 < (l0.length : Int)) = false := decide_eq_false c8
          clear c8
          (first | rw [c8b0] | (simp only [i64_w, i32_w]; rw [c8b0]) | skip)
          have H' := A0m H
          clear H
          go_wp2
          go_meet
          case rel => exact ⟨_, (false), (by first | rfl | (simp; done) | (simp [*]; done)), H', ⟨by have := HK1.out; have := HK2.out; first | omega | exact Nat.le_refl _⟩, ⟨by (with_reducible repeat (first | apply rA | apply rN | apply rD)); exact HO_3.out⟩, ⟨by (with_reducible repeat (first | apply rA | apply rN | apply rD)); exact HO_4.out⟩, ⟨by repeat (first | (with_reducible first | exact HB.out | apply bA | apply bN | apply bD) | exact HB.out)⟩⟩
        case rest =>
         clear HC7
         try clear c1
         try clear c2
         try clear c2b0
         try clear c2b1
         try clear p2
         try clear c3
         try clear c3b0
         try clear c3b1
         try clear c6
         try clear c6b0
         try clear c8
         try clear c8b0
         try clear p2
         obtain ⟨kq, x24_6, rfl, HA, HJ6, HO_3, HO_4, HB⟩ := hcut
         cases kq with
         | zero => exact absurd HA.out (by simp [octroiref33_Order.j2])
         | succ kj6 =>
          have H := HA.out
          clear HA
          simp only [octroiref33_Order.j2] at H
          by_cases c9 : x24_6 = true
          ·subst c9
           have H1 : (if 0 ≤ x7_2 then (if x7_2 < (x3_1.length : Int) then (if rdOf false x3_1 x7_2 = true then (octroiref33_Order.l1 kj6 l0 x3_1 x4_1 x5_1 x6_2 (wrap64 (x7_2 + 1))) else ((octroiref33_Needs.f kj6 l0 x7_2).bind fun t384 => ((octroiref33_all.f kj6 t384 x3_1).bind fun t387 => (if t387 = true then (octroiref33_Order.l1 kj6 l0 x3_1 x4_1 x5_1 x7_2 (wrap64 (x7_2 + 1))) else (octroiref33_Order.l1 kj6 l0 x3_1 x4_1 x5_1 x6_2 (wrap64 (x7_2 + 1))))))) else (none)) else (none)) = some r := by rw [if_pos rfl] at H; exact H
           clear H
           have H := H1
           clear H1
           by_cases c10 : 0 ≤ x7_2
           ·rw [if_pos c10] at H
            have c10b0 : decide (0 ≤ x7_2) = true := decide_eq_true c10
            clear c10
            by_cases c11 : x7_2 < (x3_1.length : Int)
            ·rw [if_pos c11] at H
             have c11b0 : decide (x7_2 < (x3_1.length : Int)) = true := decide_eq_true c11
             clear c11
             obtain ⟨bq12, hbq12⟩ : ∃ b_ : Bool, b_ = (rdOf false x3_1 x7_2) := ⟨_, rfl⟩
             replace H : (if bq12 = true then (octroiref33_Order.l1 kj6 l0 x3_1 x4_1 x5_1 x6_2 (wrap64 (x7_2 + 1))) else ((octroiref33_Needs.f kj6 l0 x7_2).bind fun t384 => ((octroiref33_all.f kj6 t384 x3_1).bind fun t387 => (if t387 = true then (octroiref33_Order.l1 kj6 l0 x3_1 x4_1 x5_1 x7_2 (wrap64 (x7_2 + 1))) else (octroiref33_Order.l1 kj6 l0 x3_1 x4_1 x5_1 x6_2 (wrap64 (x7_2 + 1))))))) = some r := by rw [← hbq12] at H; exact H
             have Nbq12 := A0m hbq12
             clear hbq12
             by_cases c13 : bq12 = true
             ·subst c13
              have H1 : (octroiref33_Order.l1 kj6 l0 x3_1 x4_1 x5_1 x6_2 (wrap64 (x7_2 + 1))) = some r := by rw [if_pos rfl] at H; exact H
              clear H
              have H := H1
              clear H1
              have H' := A0m H
              clear H
              obtain ⟨Ao14, co14, eo14⟩ := Kd.R_slice HO_3.out
              subst eo14
              have p383 : 0 ≤ (x7_2 : Int) := dT (by first | (with_reducible assumption) | assumption)
              have q383 : x7_2 < (x3_1.length : Int) := dT (by first | (with_reducible assumption) | assumption)
              obtain ⟨ad383, e383, hx383_0⟩ := Kd.at_bool (Kd.R_reads' HO_3.out).2.2 x7_2 p383 q383
              (try rw [← Nbq12.out] at hx383_0)
              cases e383
              replace p383 := eq_true p383
              replace q383 := eq_true q383
              go_wp2
              go_roundg kj6
              case measure => have := HK1.out; have := HK2.out; have := HJ6.out; omega
              case rel => exact ⟨(x6_2), (wrap64 (x7_2 + 1)), (by first | rfl | (simp; done) | (simp [*]; done)), (by first | rfl | (simp; done) | (simp [*]; done)), H', ⟨by have := HK1.out; have := HK2.out; have := HJ6.out; omega⟩, ⟨by (with_reducible repeat (first | apply rA | apply rN | apply rD)); exact HO_3.out⟩, ⟨by (with_reducible repeat (first | apply rA | apply rN | apply rD)); exact HO_4.out⟩, ⟨by repeat (first | (with_reducible first | exact HB.out | apply bA | apply bN | apply bD) | exact HB.out)⟩⟩
             ·replace c13 := Bool.eq_false_iff.mpr c13
              subst c13
              have H1 : ((octroiref33_Needs.f kj6 l0 x7_2).bind fun t384 => ((octroiref33_all.f kj6 t384 x3_1).bind fun t387 => (if t387 = true then (octroiref33_Order.l1 kj6 l0 x3_1 x4_1 x5_1 x7_2 (wrap64 (x7_2 + 1))) else (octroiref33_Order.l1 kj6 l0 x3_1 x4_1 x5_1 x6_2 (wrap64 (x7_2 + 1)))))) = some r := by rw [if_neg (show ¬ (false = true) by decide)] at H; exact H
              clear H
              have H := H1
              clear H1
              replace H := Option.bind_eq_some_iff.mp H
              obtain ⟨t384, A150, H⟩ := H
              replace H : ((octroiref33_all.f kj6 t384 x3_1).bind fun t387 => (if t387 = true then (octroiref33_Order.l1 kj6 l0 x3_1 x4_1 x5_1 x7_2 (wrap64 (x7_2 + 1))) else (octroiref33_Order.l1 kj6 l0 x3_1 x4_1 x5_1 x6_2 (wrap64 (x7_2 + 1))))) = some r := H
              have A15 := A0m A150
              clear A150
              replace H := Option.bind_eq_some_iff.mp H
              obtain ⟨t387, A160, H⟩ := H
              replace H : (if t387 = true then (octroiref33_Order.l1 kj6 l0 x3_1 x4_1 x5_1 x7_2 (wrap64 (x7_2 + 1))) else (octroiref33_Order.l1 kj6 l0 x3_1 x4_1 x5_1 x6_2 (wrap64 (x7_2 + 1)))) = some r := H
              have A16 := A0m A160
              clear A160
              by_cases c17 : t387 = true
              ·subst c17
               have H1 : (octroiref33_Order.l1 kj6 l0 x3_1 x4_1 x5_1 x7_2 (wrap64 (x7_2 + 1))) = some r := by rw [if_pos rfl] at H; exact H
               clear H
               have H := H1
               clear H1
               have H' := A0m H
               clear H
               obtain ⟨Ao18, co18, eo18⟩ := Kd.R_slice HO_3.out
               subst eo18
               have p383 : 0 ≤ (x7_2 : Int) := dT (by first | (with_reducible assumption) | assumption)
               have q383 : x7_2 < (x3_1.length : Int) := dT (by first | (with_reducible assumption) | assumption)
               obtain ⟨ad383, e383, hx383_0⟩ := Kd.at_bool (Kd.R_reads' HO_3.out).2.2 x7_2 p383 q383
               (try rw [← Nbq12.out] at hx383_0)
               cases e383
               replace p383 := eq_true p383
               replace q383 := eq_true q383
               go_wp2_with (first | (go_at_call 20; (with_reducible refine (octroiref33_Needs.calls kj6 _ _ l0 x7_2 t384 _ ?side1 ?side2 A15.out).mono ?_); (case side1 => repeat (first | exact (Kd.C_below HR0.out HB.out) | (with_reducible refine Kd.C_alloc ?_ _) | (with_reducible refine Kd.C_drewN ?_ _) | (with_reducible refine Kd.C_drew ?_))); (case side2 => exact HC0.out); rintro e w19 ⟨v385, rfl, ho0, hb⟩; have n0_ := A0m (Kd.R_below (by (with_reducible repeat (first | apply rA | apply rN | apply rD)); exact HO_3.out) hb); have n1_ := A0m (Kd.R_elder' (by (with_reducible repeat (first | apply rA | apply rN | apply rD)); exact HO_4.out) (Kd.R_base ho0) hb); have n2_ := A0m (Kd.R_lower (Kd.R_new' ho0 (Kd.R_lt (by (with_reducible repeat (first | apply rA | apply rN | apply rD)); exact HO_4.out))) (below_size (by repeat (first | (with_reducible first | exact HB.out | apply bA | apply bN | apply bD) | exact HB.out)))); have n3_ := A0m (below_step (by repeat (first | (with_reducible first | exact HB.out | apply bA | apply bN | apply bD) | exact HB.out)) hb); clear HO_3; clear HO_4; clear HB; have HO_3 := n0_; have HO_4 := n1_; have HO386 := n2_; have HB := n3_; clear n0_ n1_ n2_ n3_; (try clear hb); (try clear hb2); (try clear hk); (try clear hi); (try clear ho0); obtain ⟨Ao20, co20, eo20⟩ := Kd.R_slice HO386.out; subst eo20) | (go_at_call 43; (with_reducible refine (octroiref33_all.calls kj6 _ _ t384 _ _ x3_1 true _ ?side1 ?side2 ?side3 ?side4 A16.out).mono ?_); (case side1 => repeat (first | exact (Kd.R_reads' HO386.out).2.2 | (with_reducible refine Kd.C_alloc ?_ _) | (with_reducible refine Kd.C_drewN ?_ _) | (with_reducible refine Kd.C_drew ?_))); (case side2 => exact (Kd.R_reads' HO386.out).2.1); (case side3 => repeat (first | exact (Kd.R_reads' HO_3.out).2.2 | (with_reducible refine Kd.C_alloc ?_ _) | (with_reducible refine Kd.C_drewN ?_ _) | (with_reducible refine Kd.C_drew ?_))); (case side4 => exact (Kd.R_reads' HO_3.out).2.1); rintro e w' ⟨rfl, ⟨nd, rfl⟩⟩))
               go_roundg kj6
               case measure => have := HK1.out; have := HK2.out; have := HJ6.out; omega
               case rel => exact ⟨(x7_2), (wrap64 (x7_2 + 1)), (by first | rfl | (simp; done) | (simp [*]; done)), (by first | rfl | (simp; done) | (simp [*]; done)), H', ⟨by have := HK1.out; have := HK2.out; have := HJ6.out; omega⟩, ⟨by (with_reducible repeat (first | apply rA | apply rN | apply rD)); exact HO_3.out⟩, ⟨by (with_reducible repeat (first | apply rA | apply rN | apply rD)); exact Kd.R_mono HO_4.out (fun _ hk => trivial)⟩, ⟨by repeat (first | (with_reducible first | exact HB.out | apply bA | apply bN | apply bD) | exact HB.out)⟩⟩
              ·replace c17 := Bool.eq_false_iff.mpr c17
               subst c17
               have H1 : (octroiref33_Order.l1 kj6 l0 x3_1 x4_1 x5_1 x6_2 (wrap64 (x7_2 + 1))) = some r := by rw [if_neg (show ¬ (false = true) by decide)] at H; exact H
               clear H
               have H := H1
               clear H1
               have H' := A0m H
               clear H
               obtain ⟨Ao21, co21, eo21⟩ := Kd.R_slice HO_3.out
               subst eo21
               have p383 : 0 ≤ (x7_2 : Int) := dT (by first | (with_reducible assumption) | assumption)
               have q383 : x7_2 < (x3_1.length : Int) := dT (by first | (with_reducible assumption) | assumption)
               obtain ⟨ad383, e383, hx383_0⟩ := Kd.at_bool (Kd.R_reads' HO_3.out).2.2 x7_2 p383 q383
               (try rw [← Nbq12.out] at hx383_0)
               cases e383
               replace p383 := eq_true p383
               replace q383 := eq_true q383
               go_wp2_with (first | (go_at_call 20; (with_reducible refine (octroiref33_Needs.calls kj6 _ _ l0 x7_2 t384 _ ?side1 ?side2 A15.out).mono ?_); (case side1 => repeat (first | exact (Kd.C_below HR0.out HB.out) | (with_reducible refine Kd.C_alloc ?_ _) | (with_reducible refine Kd.C_drewN ?_ _) | (with_reducible refine Kd.C_drew ?_))); (case side2 => exact HC0.out); rintro e w22 ⟨v385, rfl, ho0, hb⟩; have n0_ := A0m (Kd.R_below (by (with_reducible repeat (first | apply rA | apply rN | apply rD)); exact HO_3.out) hb); have n1_ := A0m (Kd.R_elder' (by (with_reducible repeat (first | apply rA | apply rN | apply rD)); exact HO_4.out) (Kd.R_base ho0) hb); have n2_ := A0m (Kd.R_lower (Kd.R_new' ho0 (Kd.R_lt (by (with_reducible repeat (first | apply rA | apply rN | apply rD)); exact HO_4.out))) (below_size (by repeat (first | (with_reducible first | exact HB.out | apply bA | apply bN | apply bD) | exact HB.out)))); have n3_ := A0m (below_step (by repeat (first | (with_reducible first | exact HB.out | apply bA | apply bN | apply bD) | exact HB.out)) hb); clear HO_3; clear HO_4; clear HB; have HO_3 := n0_; have HO_4 := n1_; have HO386 := n2_; have HB := n3_; clear n0_ n1_ n2_ n3_; (try clear hb); (try clear hb2); (try clear hk); (try clear hi); (try clear ho0); obtain ⟨Ao23, co23, eo23⟩ := Kd.R_slice HO386.out; subst eo23) | (go_at_call 43; (with_reducible refine (octroiref33_all.calls kj6 _ _ t384 _ _ x3_1 false _ ?side1 ?side2 ?side3 ?side4 A16.out).mono ?_); (case side1 => repeat (first | exact (Kd.R_reads' HO386.out).2.2 | (with_reducible refine Kd.C_alloc ?_ _) | (with_reducible refine Kd.C_drewN ?_ _) | (with_reducible refine Kd.C_drew ?_))); (case side2 => exact (Kd.R_reads' HO386.out).2.1); (case side3 => repeat (first | exact (Kd.R_reads' HO_3.out).2.2 | (with_reducible refine Kd.C_alloc ?_ _) | (with_reducible refine Kd.C_drewN ?_ _) | (with_reducible refine Kd.C_drew ?_))); (case side4 => exact (Kd.R_reads' HO_3.out).2.1); rintro e w' ⟨rfl, ⟨nd, rfl⟩⟩))
               go_roundg kj6
               case measure => have := HK1.out; have := HK2.out; have := HJ6.out; omega
               case rel => exact ⟨(x6_2), (wrap64 (x7_2 + 1)), (by first | rfl | (simp; done) | (simp [*]; done)), (by first | rfl | (simp; done) | (simp [*]; done)), H', ⟨by have := HK1.out; have := HK2.out; have := HJ6.out; omega⟩, ⟨by (with_reducible repeat (first | apply rA | apply rN | apply rD)); exact HO_3.out⟩, ⟨by (with_reducible repeat (first | apply rA | apply rN | apply rD)); exact Kd.R_mono HO_4.out (fun _ hk => trivial)⟩, ⟨by repeat (first | (with_reducible first | exact HB.out | apply bA | apply bN | apply bD) | exact HB.out)⟩⟩
            ·rw [if_neg c11] at H
             exact absurd H (by simp)
           ·rw [if_neg c10] at H
            exact absurd H (by simp)
          ·replace c9 := Bool.eq_false_iff.mpr c9
           subst c9
           have H1 : (if x6_2 < 0 then (some x4_1) else (if 0 ≤ x6_2 then (if x6_2 < (x3_1.length : Int) then (if x4_1.length < 17592186044416 then (octroiref33_Order.l0 kj6 l0 (x3_1.set (x6_2 : Int).toNat true) (x4_1 ++ [x6_2]) (wrap64 (x5_1 + 1))) else (none)) else (none)) else (none))) = some r := by rw [if_neg (show ¬ (false = true) by decide)] at H; exact H
           clear H
           have H := H1
           clear H1
           by_cases c24 : x6_2 < 0
           ·rw [if_pos c24] at H
            have c24b0 : decide (x6_2 < 0) = true := decide_eq_true c24
            clear c24
            obtain rfl := Option.some.inj H
            go_wp2
            go_ret
            exact ⟨_, by first | rfl | (simp [errW_none, errW_some] <;> rfl) | (simp [*, errW_none, errW_some] <;> rfl), by (with_reducible repeat (first | apply rA | apply rN | apply rD)); exact HO_4.out, by repeat (first | (with_reducible first | exact HB.out | apply bA | apply bN | apply bD) | exact HB.out)⟩
           ·rw [if_neg c24] at H
            have c24b0 : decide (x6_2 < 0) = false := decide_eq_false c24
            clear c24
            by_cases c25 : 0 ≤ x6_2
            ·rw [if_pos c25] at H
             have c25b0 : decide (0 ≤ x6_2) = true := decide_eq_true c25
             clear c25
             by_cases c26 : x6_2 < (x3_1.length : Int)
             ·rw [if_pos c26] at H
              have c26b0 : decide (x6_2 < (x3_1.length : Int)) = true := decide_eq_true c26
              clear c26
              obtain ⟨y379, hy379⟩ : ∃ y_ : List Bool, y_ = (x3_1.set (x6_2 : Int).toNat true) := ⟨_, rfl⟩
              replace H : (if x4_1.length < 17592186044416 then (octroiref33_Order.l0 kj6 l0 y379 (x4_1 ++ [x6_2]) (wrap64 (x5_1 + 1))) else (none)) = some r := by first | (rw [hy379]; with_reducible exact H) | (have H2_ := (Option.bind_some _ _).symm.trans H; rw [hy379]; with_reducible exact H2_) | (have H2_ := (Option.bind_some _ _).symm.trans H; with_reducible exact H2_) | with_reducible exact H | (rw [hy379]; exact H) | exact H
              have Ny379 := A0m hy379
              clear hy379
              by_cases c28 : x4_1.length < 17592186044416
              ·rw [if_pos c28] at H
               have LMc28 := A0m c28
               clear c28
               obtain ⟨y380, hy380⟩ : ∃ y_ : List Int, y_ = (x4_1 ++ [x6_2]) := ⟨_, rfl⟩
               replace H : (octroiref33_Order.l0 kj6 l0 y379 y380 (wrap64 (x5_1 + 1))) = some r := by first | (rw [hy380]; with_reducible exact H) | (have H2_ := (Option.bind_some _ _).symm.trans H; rw [hy380]; with_reducible exact H2_) | (have H2_ := (Option.bind_some _ _).symm.trans H; with_reducible exact H2_) | with_reducible exact H | (rw [hy380]; exact H) | exact H
               have Ny380 := A0m hy380
               clear hy380
               have H' := A0m H
               clear H
               have p27 : 0 ≤ (x6_2 : Int) := dT (by first | (with_reducible assumption) | assumption)
               have q27 : (x6_2 : Int) < ((x3_1.length : Int) : Int) := dT (by first | (with_reducible assumption) | assumption)
               obtain ⟨go27, co27, eo27, gb27, gl27, cl27, HG27⟩ := Kd.R_form HO_3.out (by omega)
               (first | cases eo27 | (injection eo27 with ea_ en_ ec_; (first | subst ea_ | (injection ea_ with ea_; subst ea_)); subst ec_; clear en_))
               have GB27 := A0m gb27
               have GG27 := A0m HG27
               clear gb27 gl27 HG27
               obtain ⟨hx27_0, hf27_0⟩ := Kd.R_celln false HO_3.out (x6_2 : Int) p27 q27
               replace p27 := eq_true p27
               replace q27 := eq_true q27
               have HP29 := Kd.R_putg HO_3.out (x6_2 : Int) true
               go_wp2_with (first | ((with_reducible refine gate_store (t := 4) (p := 45) rfl ?_); refine store_event (t := 4) (p := 45) (v := ?vo_w30) (w1 := (wc.setCell ⟨go27, (x6_2 : Int).toNat, none⟩ (.bool true))) ?hg ?ho ?hn ?hr ?_; (case ho => rfl); (case hg => rfl); (case hn => rfl); (case hr => first | (go_simp; done) | (go_simp; rfl)); intro w30 hw; have hg : wc.grownBy w30 (some go27) := (by rw [hw]; exact HP29.2); have hp_ : Kd.R Kd.bool 4 w30 w.heap.size (fun _ => True) (.slice (some ⟨go27, 0, none⟩) x3_1.length co27) y379 := (by rw [hw, Ny379.out]; exact HP29.1); clear HP29; have n0_ := A0m (hp_); have n1_ := A0m (Kd.R_over' (v := (.slice (some ⟨go27, 0, none⟩) x3_1.length co27)) (by (with_reducible repeat (first | apply rA | apply rN | apply rD)); exact HO_4.out) (Kd.R_typed HO_3.out) (by decide) hg); have n2_ := A0m ((by rw [hw]; exact bS (HB.out) GB27.out : Below w.heap.size w w30)); clear HO_3; clear HO_4; clear HB; have HO_3 := n0_; have HO_4 := n1_; have HB := n2_; clear n0_ n1_ n2_; clear hg hw hp_) | ((with_reducible refine gate_builtin (b := .append) (xs := #[.tmp 46, .tmp 48]) rfl ?_); at_builtin; refine Kd.R_append (Kd.int .i64) (w0 := w) w.heap.size rfl (.tmp 46) (.tmp 48) 42 3 (.int .i64 0) 8 rfl Tryz.underlying42 info3 rfl (by decide) (by omega) u4 x4_1 x6_2 [.int .i64 x6_2] (fun _ => True) (fun _ => False) rfl rfl ?aP (fun _ hk => hk.elim) ?aF ?aO ?aB ?aS ?aL ?_; (case aP => exact rfl); (case aB => exact (by repeat (first | (with_reducible first | exact HB.out | apply bA | apply bN | apply bD) | exact HB.out))); (case aF => exact (fun _ _ => trivial)); (case aO => exact (by (with_reducible repeat (first | apply rA | apply rN | apply rD)); exact HO_4.out)); (case aS => exact (below_size (by repeat (first | (with_reducible first | exact HB.out | apply bA | apply bN | apply bD) | exact HB.out)))); (case aL => have := LMc28.out; omega); intro v381 w31 ho hb hg hat; rw [← Ny380.out] at ho; have n0_ := A0m (Kd.R_over' (by (with_reducible repeat (first | apply rA | apply rN | apply rD)); exact HO_3.out) (Kd.R_typed (by (with_reducible repeat (first | apply rA | apply rN | apply rD)); exact HO_4.out)) (by decide) hg); have n1_ := A0m (hb); have n2_ := A0m (ho); clear HO_3; clear HB; clear HO_4; have HO_3 := n0_; have HB := n1_; have HO382 := n2_; clear n0_ n1_ n2_; clear ho hb hg hat))
               go_roundg kj6
               case measure => have := HK1.out; have := HK2.out; have := HJ6.out; omega
               case rel => exact ⟨(y379), (y380), (wrap64 (x5_1 + 1)), (by first | rfl | (simp; done) | (simp [*]; done)), H', ⟨by have := HK1.out; have := HK2.out; have := HJ6.out; omega⟩, ⟨by (with_reducible repeat (first | apply rA | apply rN | apply rD)); exact HO_3.out⟩, ⟨by (with_reducible repeat (first | apply rA | apply rN | apply rD)); exact HO382.out⟩, ⟨by repeat (first | (with_reducible first | exact HB.out | apply bA | apply bN | apply bD) | exact HB.out)⟩⟩
              ·rw [if_neg c28] at H
               exact absurd H (by simp)
             ·rw [if_neg c26] at H
              exact absurd H (by simp)
            ·rw [if_neg c25] at H
             exact absurd H (by simp)
     ·rw [if_neg c6] at H
      have c6b0 : decide (x5_1 < (l0.length : Int)) = false := decide_eq_false c6
      clear c6
      obtain rfl := Option.some.inj H
      go_wp2
      go_ret
      exact ⟨_, by first | rfl | (simp [errW_none, errW_some] <;> rfl) | (simp [*, errW_none, errW_some] <;> rfl), by (with_reducible repeat (first | apply rA | apply rN | apply rD)); exact HO_4.out, by repeat (first | (with_reducible first | exact HB.out | apply bA | apply bN | apply bD) | exact HB.out)⟩
  ·rw [if_neg c3] at H
   exact absurd H (by simp)
 ·rw [if_neg c2] at H
  exact absurd H (by simp)

/-! ### octroiref31_Good: function 30 -/
def octroiref31_Good.l0 : Nat → List (S35) → Int → Option (Bool)
 | 0, _, _ => none
 | k + 1, x0, x3 => if x3 < (x0.length : Int) then (if 0 ≤ x3 then ((octroiref31_BoxNumber.f ((rd_T35 x0 x3).f0)).bind fun t389 => (if t389 = true then ((octroiref31_GoodExpr.f k ((rd_T35 x0 x3).f1.f0) ((rd_T35 x0 x3).f1.f1) ((rd_T35 x0 x3).f1.f2) ((rd_T35 x0 x3).f1.f3) ((rd_T35 x0 x3).f1.f4)).bind fun t391 => (if t391 = true then (octroiref31_Good.l0 k x0 (wrap64 (x3 + 1))) else (some false))) else (some false))) else (none)) else (some (decide ((x0.length : Int) ≤ 256)))
def octroiref31_Good.f (k : Nat) (l0 : List (S35)) : Option (Bool) := octroiref31_Good.l0 k l0 0
theorem octroiref31_Good.mono_l : ∀ k, (∀ y0 y1, LeO (octroiref31_Good.l0 k y0 y1) (octroiref31_Good.l0 (k + 1) y0 y1))
 | 0 => fun _ _ r h => by simp [octroiref31_Good.l0] at h
 | k + 1 => by
  have ih0 := octroiref31_Good.mono_l k
  ·intro y0 y1
   unfold octroiref31_Good.l0
   repeat' first
   | (with_reducible exact ih0 _ _)
   | (with_reducible exact octroiref31_GoodExpr.mono _ _ _ _ _ _)
   | (with_reducible exact LeO.refl _)
   | (with_reducible exact LeO.none _)
   | (with_reducible refine LeO.ite ?_ ?_)
   | (with_reducible refine LeO.bind ?_ (fun _ => ?_))
   | exact ih0 _ _
   | exact octroiref31_GoodExpr.mono _ _ _ _ _ _
   | exact LeO.none _
   | refine LeO.ite ?_ ?_
   | refine LeO.bind ?_ (fun _ => ?_)
theorem octroiref31_Good.mono : ∀ a0 k, LeO (octroiref31_Good.f k a0) (octroiref31_Good.f (k + 1) a0) := by
 intro a0 k
 have ih0 := octroiref31_Good.mono_l k
 unfold octroiref31_Good.f
 repeat' first
   | (with_reducible exact ih0 _ _)
   | (with_reducible exact octroiref31_GoodExpr.mono _ _ _ _ _ _)
   | (with_reducible exact LeO.refl _)
   | (with_reducible exact LeO.none _)
   | (with_reducible refine LeO.ite ?_ ?_)
   | (with_reducible refine LeO.bind ?_ (fun _ => ?_))
   | exact ih0 _ _
   | exact octroiref31_GoodExpr.mono _ _ _ _ _ _
   | exact LeO.none _
   | refine LeO.ite ?_ ?_
   | refine LeO.bind ?_ (fun _ => ?_)
set_option maxHeartbeats 8000000 in
set_option maxRecDepth 100000 in
theorem octroiref31_Good.calls (k : Nat) (A0 : Option Addr) (c0 : Nat) (l0 : List (S35)) (r : Bool) (w : World) (hr0 : Kd.C k35 w A0 l0.length l0) (hc0 : l0.length ≤ c0) (h : octroiref31_Good.f k l0 = some r) :
  Calls Tryz.prog 30 #[.slice A0 l0.length c0] w fun e w' => e = .returned (.bool r) ∧ Below w.heap.size w w' := by
 have hu33 := Tryz.underlying33
 have HR0 := A0m hr0
 have HC0 := A0m hc0
 clear hr0 hc0
 have HB := A0m (Below.refl w.heap.size w)
 have H : (octroiref31_Good.l0 k l0 0) = some r := h
 clear h
 have H' := A0m H
 clear H
 go_enter Tryz.func30, Tryz.ntmps30
 go_wp2
 go_loopg [3] k (fun kq v3 w' => ∃ (x3_1 : Int), v3 = .int .i64 x3_1 ∧ Aside0 (octroiref31_Good.l0 kq l0 x3_1 = some r) ∧ Aside0 (kq ≤ k) ∧ Aside0 (Below w.heap.size w w'))
 case atStart => exact ⟨(0), (by first | rfl | (simp; done) | (simp [*]; done)), H', ⟨Nat.le_refl _⟩, ⟨by repeat (first | (with_reducible first | exact HB.out | apply bA | apply bN | apply bD) | exact HB.out)⟩⟩
 case round =>
  clear H'
  obtain ⟨x3_1, rfl, HA, HK1, HB⟩ := hrel
  cases gk with
  | zero => exact absurd HA.out (by simp [octroiref31_Good.l0])
  | succ k1 =>
   have H := HA.out
   clear HA
   simp only [octroiref31_Good.l0] at H
   by_cases c2 : x3_1 < (l0.length : Int)
   ·rw [if_pos c2] at H
    have c2b0 : decide (x3_1 < (l0.length : Int)) = true := decide_eq_true c2
    clear c2
    by_cases c3 : 0 ≤ x3_1
    ·rw [if_pos c3] at H
     have c3b0 : decide (0 ≤ x3_1) = true := decide_eq_true c3
     clear c3
     replace H := Option.bind_eq_some_iff.mp H
     obtain ⟨t389, A40, H⟩ := H
     replace H : (if t389 = true then ((octroiref31_GoodExpr.f k1 ((rd_T35 l0 x3_1).f1.f0) ((rd_T35 l0 x3_1).f1.f1) ((rd_T35 l0 x3_1).f1.f2) ((rd_T35 l0 x3_1).f1.f3) ((rd_T35 l0 x3_1).f1.f4)).bind fun t391 => (if t391 = true then (octroiref31_Good.l0 k1 l0 (wrap64 (x3_1 + 1))) else (some false))) else (some false)) = some r := H
     have A4 := A0m A40
     clear A40
     by_cases c5 : t389 = true
     ·subst c5
      have H1 : ((octroiref31_GoodExpr.f k1 ((rd_T35 l0 x3_1).f1.f0) ((rd_T35 l0 x3_1).f1.f1) ((rd_T35 l0 x3_1).f1.f2) ((rd_T35 l0 x3_1).f1.f3) ((rd_T35 l0 x3_1).f1.f4)).bind fun t391 => (if t391 = true then (octroiref31_Good.l0 k1 l0 (wrap64 (x3_1 + 1))) else (some false))) = some r := by rw [if_pos rfl] at H; exact H
      clear H
      have H := H1
      clear H1
      replace H := Option.bind_eq_some_iff.mp H
      obtain ⟨t391, A60, H⟩ := H
      replace H : (if t391 = true then (octroiref31_Good.l0 k1 l0 (wrap64 (x3_1 + 1))) else (some false)) = some r := H
      have A6 := A0m A60
      clear A60
      by_cases c7 : t391 = true
      ·subst c7
       have H1 : (octroiref31_Good.l0 k1 l0 (wrap64 (x3_1 + 1))) = some r := by rw [if_pos rfl] at H; exact H
       clear H
       have H := H1
       clear H1
       have H' := A0m H
       clear H
       have p388 : 0 ≤ (x3_1 : Int) := dT (by first | (with_reducible assumption) | assumption)
       have q388 : x3_1 < (l0.length : Int) := dT (by first | (with_reducible assumption) | assumption)
       obtain ⟨ad388, A388_4, c388_4, A388_5, c388_5, e388, hx388_0, hx388_1, hx388_2, hx388_3, hx388_4, hx388_5, hl388_4, hi388_4, hl388_5, hi388_5⟩ := at_T35 HR0.out x3_1 p388 q388
       cases e388
       replace hx388_0 := (HB.out.cell (wL w _ hx388_0)).trans hx388_0
       replace hx388_1 := (HB.out.cell (wL w _ hx388_1)).trans hx388_1
       replace hx388_2 := (HB.out.cell (wL w _ hx388_2)).trans hx388_2
       replace hx388_3 := (HB.out.cell (wL w _ hx388_3)).trans hx388_3
       replace hx388_4 := (HB.out.cell (wL w _ hx388_4)).trans hx388_4
       replace hx388_5 := (HB.out.cell (wL w _ hx388_5)).trans hx388_5
       have HR388_4 := A0m hi388_4
       have HC388_4 := A0m hl388_4
       clear hi388_4 hl388_4
       have HR388_5 := A0m hi388_5
       have HC388_5 := A0m hl388_5
       clear hi388_5 hl388_5
       replace p388 := eq_true p388
       replace q388 := eq_true q388
       go_wp2_with (first | ((with_reducible refine gate_callee (f := 55) rfl ?_); refine goesL_ (some 15) rfl rfl Tryz.func55 (by kernel_rfl) rfl #[.int .i64 ((rd_T35 l0 x3_1).f0)] rfl (by (try simp only [List.map_toArray, List.map_cons, List.map_nil]); first | done | rfl | (simp only [List.length_drop, List.length_take]; rfl)) ?_; (with_reducible refine (octroiref31_BoxNumber.calls ((rd_T35 l0 x3_1).f0) true _ A4.out).mono ?_); rintro e w' ⟨rfl, ⟨nd, rfl⟩⟩; refine ⟨_, rfl, ?_⟩; have p390 : 0 ≤ (x3_1 : Int) := dT (by first | (with_reducible assumption) | assumption); have q390 : x3_1 < (l0.length : Int) := dT (by first | (with_reducible assumption) | assumption); obtain ⟨ad390, A390_4, c390_4, A390_5, c390_5, e390, hx390_0, hx390_1, hx390_2, hx390_3, hx390_4, hx390_5, hl390_4, hi390_4, hl390_5, hi390_5⟩ := at_T35 HR0.out x3_1 p390 q390; obtain rfl : ad388 = ad390 := (by injection e390); replace hx390_0 := (HB.out.cell (wL w _ hx390_0)).trans hx390_0; replace hx390_1 := (HB.out.cell (wL w _ hx390_1)).trans hx390_1; replace hx390_2 := (HB.out.cell (wL w _ hx390_2)).trans hx390_2; replace hx390_3 := (HB.out.cell (wL w _ hx390_3)).trans hx390_3; replace hx390_4 := (HB.out.cell (wL w _ hx390_4)).trans hx390_4; replace hx390_5 := (HB.out.cell (wL w _ hx390_5)).trans hx390_5; have HR390_4 := A0m hi390_4; have HC390_4 := A0m hl390_4; clear hi390_4 hl390_4; have HR390_5 := A0m hi390_5; have HC390_5 := A0m hl390_5; clear hi390_5 hl390_5; replace p390 := eq_true p390; replace q390 := eq_true q390; have ea_ := Option.some.inj (hx388_4.symm.trans hx390_4); injection ea_ with ea_ en_ ec_; subst ea_; subst ec_; clear en_; have ea_ := Option.some.inj (hx388_5.symm.trans hx390_5); injection ea_ with ea_ en_ ec_; subst ea_; subst ec_; clear en_) | (go_at_call 8; (with_reducible refine (octroiref31_GoodExpr.calls k1 ((rd_T35 l0 x3_1).f1.f0) ((rd_T35 l0 x3_1).f1.f1) ((rd_T35 l0 x3_1).f1.f2) _ _ ((rd_T35 l0 x3_1).f1.f3) _ _ ((rd_T35 l0 x3_1).f1.f4) true _ ?side1 ?side2 ?side3 ?side4 A6.out).mono ?_); (case side1 => repeat (first | exact (Kd.C_below HR390_4.out (by repeat (first | (with_reducible first | exact HB.out | apply bA | apply bN | apply bD) | exact HB.out))) | (with_reducible refine Kd.C_alloc ?_ _) | (with_reducible refine Kd.C_drewN ?_ _) | (with_reducible refine Kd.C_drew ?_))); (case side2 => exact HC390_4.out); (case side3 => repeat (first | exact (Kd.C_below HR390_5.out (by repeat (first | (with_reducible first | exact HB.out | apply bA | apply bN | apply bD) | exact HB.out))) | (with_reducible refine Kd.C_alloc ?_ _) | (with_reducible refine Kd.C_drewN ?_ _) | (with_reducible refine Kd.C_drew ?_))); (case side4 => exact HC390_5.out); rintro e w8 ⟨rfl, hb⟩; have n0_ := A0m (below_step (by repeat (first | (with_reducible first | exact HB.out | apply bA | apply bN | apply bD) | exact HB.out)) hb); clear HB; have HB := n0_; clear n0_; (try clear hb); (try clear hb2); (try clear hk); (try clear hi)))
       go_roundg k1
       case measure => have := HK1.out; omega
       case rel => exact ⟨(wrap64 (x3_1 + 1)), (by first | rfl | (simp; done) | (simp [*]; done)), H', ⟨by have := HK1.out; omega⟩, ⟨by repeat (first | (with_reducible first | exact HB.out | apply bA | apply bN | apply bD) | exact HB.out)⟩⟩
      ·replace c7 := Bool.eq_false_iff.mpr c7
       subst c7
       have H1 : (some false) = some r := by rw [if_neg (show ¬ (false = true) by decide)] at H; exact H
       clear H
       have H := H1
       clear H1
       obtain rfl := Option.some.inj H
       have p388 : 0 ≤ (x3_1 : Int) := dT (by first | (with_reducible assumption) | assumption)
       have q388 : x3_1 < (l0.length : Int) := dT (by first | (with_reducible assumption) | assumption)
       obtain ⟨ad388, A388_4, c388_4, A388_5, c388_5, e388, hx388_0, hx388_1, hx388_2, hx388_3, hx388_4, hx388_5, hl388_4, hi388_4, hl388_5, hi388_5⟩ := at_T35 HR0.out x3_1 p388 q388
       cases e388
       replace hx388_0 := (HB.out.cell (wL w _ hx388_0)).trans hx388_0
       replace hx388_1 := (HB.out.cell (wL w _ hx388_1)).trans hx388_1
       replace hx388_2 := (HB.out.cell (wL w _ hx388_2)).trans hx388_2
       replace hx388_3 := (HB.out.cell (wL w _ hx388_3)).trans hx388_3
       replace hx388_4 := (HB.out.cell (wL w _ hx388_4)).trans hx388_4
       replace hx388_5 := (HB.out.cell (wL w _ hx388_5)).trans hx388_5
       have HR388_4 := A0m hi388_4
       have HC388_4 := A0m hl388_4
       clear hi388_4 hl388_4
       have HR388_5 := A0m hi388_5
       have HC388_5 := A0m hl388_5
       clear hi388_5 hl388_5
       replace p388 := eq_true p388
       replace q388 := eq_true q388
       go_wp2_with (first | ((with_reducible refine gate_callee (f := 55) rfl ?_); refine goesL_ (some 15) rfl rfl Tryz.func55 (by kernel_rfl) rfl #[.int .i64 ((rd_T35 l0 x3_1).f0)] rfl (by (try simp only [List.map_toArray, List.map_cons, List.map_nil]); first | done | rfl | (simp only [List.length_drop, List.length_take]; rfl)) ?_; (with_reducible refine (octroiref31_BoxNumber.calls ((rd_T35 l0 x3_1).f0) true _ A4.out).mono ?_); rintro e w' ⟨rfl, ⟨nd, rfl⟩⟩; refine ⟨_, rfl, ?_⟩; have p390 : 0 ≤ (x3_1 : Int) := dT (by first | (with_reducible assumption) | assumption); have q390 : x3_1 < (l0.length : Int) := dT (by first | (with_reducible assumption) | assumption); obtain ⟨ad390, A390_4, c390_4, A390_5, c390_5, e390, hx390_0, hx390_1, hx390_2, hx390_3, hx390_4, hx390_5, hl390_4, hi390_4, hl390_5, hi390_5⟩ := at_T35 HR0.out x3_1 p390 q390; obtain rfl : ad388 = ad390 := (by injection e390); replace hx390_0 := (HB.out.cell (wL w _ hx390_0)).trans hx390_0; replace hx390_1 := (HB.out.cell (wL w _ hx390_1)).trans hx390_1; replace hx390_2 := (HB.out.cell (wL w _ hx390_2)).trans hx390_2; replace hx390_3 := (HB.out.cell (wL w _ hx390_3)).trans hx390_3; replace hx390_4 := (HB.out.cell (wL w _ hx390_4)).trans hx390_4; replace hx390_5 := (HB.out.cell (wL w _ hx390_5)).trans hx390_5; have HR390_4 := A0m hi390_4; have HC390_4 := A0m hl390_4; clear hi390_4 hl390_4; have HR390_5 := A0m hi390_5; have HC390_5 := A0m hl390_5; clear hi390_5 hl390_5; replace p390 := eq_true p390; replace q390 := eq_true q390; have ea_ := Option.some.inj (hx388_4.symm.trans hx390_4); injection ea_ with ea_ en_ ec_; subst ea_; subst ec_; clear en_; have ea_ := Option.some.inj (hx388_5.symm.trans hx390_5); injection ea_ with ea_ en_ ec_; subst ea_; subst ec_; clear en_) | (go_at_call 8; (with_reducible refine (octroiref31_GoodExpr.calls k1 ((rd_T35 l0 x3_1).f1.f0) ((rd_T35 l0 x3_1).f1.f1) ((rd_T35 l0 x3_1).f1.f2) _ _ ((rd_T35 l0 x3_1).f1.f3) _ _ ((rd_T35 l0 x3_1).f1.f4) false _ ?side1 ?side2 ?side3 ?side4 A6.out).mono ?_); (case side1 => repeat (first | exact (Kd.C_below HR390_4.out (by repeat (first | (with_reducible first | exact HB.out | apply bA | apply bN | apply bD) | exact HB.out))) | (with_reducible refine Kd.C_alloc ?_ _) | (with_reducible refine Kd.C_drewN ?_ _) | (with_reducible refine Kd.C_drew ?_))); (case side2 => exact HC390_4.out); (case side3 => repeat (first | exact (Kd.C_below HR390_5.out (by repeat (first | (with_reducible first | exact HB.out | apply bA | apply bN | apply bD) | exact HB.out))) | (with_reducible refine Kd.C_alloc ?_ _) | (with_reducible refine Kd.C_drewN ?_ _) | (with_reducible refine Kd.C_drew ?_))); (case side4 => exact HC390_5.out); rintro e w9 ⟨rfl, hb⟩; have n0_ := A0m (below_step (by repeat (first | (with_reducible first | exact HB.out | apply bA | apply bN | apply bD) | exact HB.out)) hb); clear HB; have HB := n0_; clear n0_; (try clear hb); (try clear hb2); (try clear hk); (try clear hi)))
       go_ret
       exact ⟨by first | rfl | (simp [errW_none, errW_some] <;> rfl) | (simp [*, errW_none, errW_some] <;> rfl), by repeat (first | (with_reducible first | exact HB.out | apply bA | apply bN | apply bD) | exact HB.out)⟩
     ·replace c5 := Bool.eq_false_iff.mpr c5
      subst c5
      have H1 : (some false) = some r := by rw [if_neg (show ¬ (false = true) by decide)] at H; exact H
      clear H
      have H := H1
      clear H1
      obtain rfl := Option.some.inj H
      have p388 : 0 ≤ (x3_1 : Int) := dT (by first | (with_reducible assumption) | assumption)
      have q388 : x3_1 < (l0.length : Int) := dT (by first | (with_reducible assumption) | assumption)
      obtain ⟨ad388, A388_4, c388_4, A388_5, c388_5, e388, hx388_0, hx388_1, hx388_2, hx388_3, hx388_4, hx388_5, hl388_4, hi388_4, hl388_5, hi388_5⟩ := at_T35 HR0.out x3_1 p388 q388
      cases e388
      replace hx388_0 := (HB.out.cell (wL w _ hx388_0)).trans hx388_0
      replace hx388_1 := (HB.out.cell (wL w _ hx388_1)).trans hx388_1
      replace hx388_2 := (HB.out.cell (wL w _ hx388_2)).trans hx388_2
      replace hx388_3 := (HB.out.cell (wL w _ hx388_3)).trans hx388_3
      replace hx388_4 := (HB.out.cell (wL w _ hx388_4)).trans hx388_4
      replace hx388_5 := (HB.out.cell (wL w _ hx388_5)).trans hx388_5
      have HR388_4 := A0m hi388_4
      have HC388_4 := A0m hl388_4
      clear hi388_4 hl388_4
      have HR388_5 := A0m hi388_5
      have HC388_5 := A0m hl388_5
      clear hi388_5 hl388_5
      replace p388 := eq_true p388
      replace q388 := eq_true q388
      go_wp2_with (first | ((with_reducible refine gate_callee (f := 55) rfl ?_); refine goesL_ (some 15) rfl rfl Tryz.func55 (by kernel_rfl) rfl #[.int .i64 ((rd_T35 l0 x3_1).f0)] rfl (by (try simp only [List.map_toArray, List.map_cons, List.map_nil]); first | done | rfl | (simp only [List.length_drop, List.length_take]; rfl)) ?_; (with_reducible refine (octroiref31_BoxNumber.calls ((rd_T35 l0 x3_1).f0) false _ A4.out).mono ?_); rintro e w' ⟨rfl, ⟨nd, rfl⟩⟩; refine ⟨_, rfl, ?_⟩))
      go_ret
      exact ⟨by first | rfl | (simp [errW_none, errW_some] <;> rfl) | (simp [*, errW_none, errW_some] <;> rfl), by repeat (first | (with_reducible first | exact HB.out | apply bA | apply bN | apply bD) | exact HB.out)⟩
    ·rw [if_neg c3] at H
     exact absurd H (by simp)
   ·rw [if_neg c2] at H
    have c2b0 : decide (x3_1 < (l0.length : Int)) = false := decide_eq_false c2
    clear c2
    obtain rfl := Option.some.inj H
    go_wp2
    go_ret
    exact ⟨by first | rfl | (simp [errW_none, errW_some] <;> rfl) | (simp [*, errW_none, errW_some] <;> rfl), by repeat (first | (with_reducible first | exact HB.out | apply bA | apply bN | apply bD) | exact HB.out)⟩

end Go.Proofs.YtmkalnljclhigaaGreat.XCheckerChecks
