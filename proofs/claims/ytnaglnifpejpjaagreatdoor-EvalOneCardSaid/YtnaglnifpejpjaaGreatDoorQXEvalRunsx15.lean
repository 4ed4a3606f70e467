-- WRITTEN BY wip/xprint.py (my own wrapper round the print, with contracts of my own in it)
import Derived.Test.YtnaglnifpejpjaaGreatDoorQXEvalRunsx0
import Derived.Test.YtnaglnifpejpjaaGreatDoorQXEvalRunsx11
import Derived.Test.YtnaglnifpejpjaaGreatDoorQXEvalRunsx12
import Derived.Test.YtnaglnifpejpjaaGreatDoorQXEvalRunsx13
import Derived.Test.YtnaglnifpejpjaaGreatDoorQXEvalRunsx14
namespace Go.Proofs.YtnaglnifpejpjaaGreatDoor.XEvalRuns
open Go.RowKit Go.Proofs.YtnaglnifpejpjaaGreatDoorW.PrintWords Go.Proofs.YtnaglnifpejpjaaGreatDoorW.PrintLast Go.Proofs.YtnaglnifpejpjaaGreatDoorW.PrintMore
attribute [local go_sem] max2_int min2_int max_two min_two max_three min_three max_four min_four   -- for this text's walks alone
set_option linter.unusedVariables false
set_option linter.unusedSimpArgs false

/-! ### octroiref33_Names: function 111 -/
mutual
def octroiref33_Names.l0 : Nat → Bool → Int → Int → Int → ByteArray → List (S70) → List (S25) → Option (Bool)
 | 0, _, _, _, _, _, _, _ => none
 | k + 1, x4, x5, x434000, x434001, x434002, x434003, x434004 => if x5 < (x434003.length : Int) then (if 0 ≤ x5 then ((octroiref25_Tag.f 0 0 0 0 0 0 (⟨#[]⟩ : ByteArray) false 0 0 0 (⟨#[]⟩ : ByteArray) (⟨#[]⟩ : ByteArray) 0 0 0 false ((rd_T70 x434003 x5).f0)).bind fun bt437 => (if x4 = true then (octroiref33_Names.l0 k bt437.2 (wrap64 (x5 + 1)) x434000 x434001 x434002 x434003 x434004) else (octroiref33_Names.l0 k false (wrap64 (x5 + 1)) x434000 x434001 x434002 x434003 x434004))) else (none)) else (some x4)
def octroiref33_Names.l1 : Nat → Int → Int → Int → ByteArray → List (S70) → List (S25) → Option (Bool)
 | 0, _, _, _, _, _, _ => none
 | k + 1, x8, x434000, x434001, x434002, x434003, x434004 => if x8 < (x434004.length : Int) then (if 0 ≤ x8 then ((octroiref33_Names.f k ((rd_T25 x434004 x8).f0) ((rd_T25 x434004 x8).f1) ((rd_T25 x434004 x8).f2) ((rd_T25 x434004 x8).f3) ((rd_T25 x434004 x8).f4)).bind fun t440 => (if t440 = true then (octroiref33_Names.l1 k (wrap64 (x8 + 1)) x434000 x434001 x434002 x434003 x434004) else (some false))) else (none)) else (some true)
def octroiref33_Names.f : Nat → Int → Int → ByteArray → List (S70) → List (S25) → Option (Bool)
 | 0, _, _, _, _, _ => none
 | k + 1, a0_0, a0_1, a0_2, l0_3, l0_4 => if a0_0 = 3 then ((octroiref25_Field.f 0 0 0 0 0 0 (⟨#[]⟩ : ByteArray) false 0 0 0 (⟨#[]⟩ : ByteArray) (⟨#[]⟩ : ByteArray) 0 0 0 false a0_2).bind fun bt434 => (octroiref33_Names.l0 k bt434.2 0 a0_0 a0_1 a0_2 l0_3 l0_4)) else (octroiref33_Names.l1 k 0 a0_0 a0_1 a0_2 l0_3 l0_4)
end
theorem octroiref33_Names.mono_l : ∀ k, (∀ y0 y1 y2 y3 y4, LeO (octroiref33_Names.f k y0 y1 y2 y3 y4) (octroiref33_Names.f (k + 1) y0 y1 y2 y3 y4)) ∧ (∀ y0 y1 y2 y3 y4 y5 y6, LeO (octroiref33_Names.l0 k y0 y1 y2 y3 y4 y5 y6) (octroiref33_Names.l0 (k + 1) y0 y1 y2 y3 y4 y5 y6)) ∧ (∀ y0 y1 y2 y3 y4 y5, LeO (octroiref33_Names.l1 k y0 y1 y2 y3 y4 y5) (octroiref33_Names.l1 (k + 1) y0 y1 y2 y3 y4 y5))
 | 0 => ⟨fun _ _ _ _ _ r h => by simp [octroiref33_Names.f] at h, fun _ _ _ _ _ _ _ r h => by simp [octroiref33_Names.l0] at h, fun _ _ _ _ _ _ r h => by simp [octroiref33_Names.l1] at h⟩
 | k + 1 => by
  obtain ⟨ih0, ih1, ih2⟩ := octroiref33_Names.mono_l k
  refine ⟨?_, ?_, ?_⟩
  ·intro y0 y1 y2 y3 y4
   unfold octroiref33_Names.f
   repeat' first
   | (with_reducible exact ih0 _ _ _ _ _)
   | (with_reducible exact ih1 _ _ _ _ _ _ _)
   | (with_reducible exact ih2 _ _ _ _ _ _)
   | (with_reducible exact LeO.refl _)
   | (with_reducible exact LeO.none _)
   | (with_reducible refine LeO.ite ?_ ?_)
   | (with_reducible refine LeO.bind ?_ (fun _ => ?_))
   | exact ih0 _ _ _ _ _
   | exact ih1 _ _ _ _ _ _ _
   | exact ih2 _ _ _ _ _ _
   | exact LeO.none _
   | refine LeO.ite ?_ ?_
   | refine LeO.bind ?_ (fun _ => ?_)
  ·intro y0 y1 y2 y3 y4 y5 y6
   unfold octroiref33_Names.l0
   repeat' first
   | (with_reducible exact ih0 _ _ _ _ _)
   | (with_reducible exact ih1 _ _ _ _ _ _ _)
   | (with_reducible exact ih2 _ _ _ _ _ _)
   | (with_reducible exact LeO.refl _)
   | (with_reducible exact LeO.none _)
   | (with_reducible refine LeO.ite ?_ ?_)
   | (with_reducible refine LeO.bind ?_ (fun _ => ?_))
   | exact ih0 _ _ _ _ _
   | exact ih1 _ _ _ _ _ _ _
   | exact ih2 _ _ _ _ _ _
   | exact LeO.none _
   | refine LeO.ite ?_ ?_
   | refine LeO.bind ?_ (fun _ => ?_)
  ·intro y0 y1 y2 y3 y4 y5
   unfold octroiref33_Names.l1
   repeat' first
   | (with_reducible exact ih0 _ _ _ _ _)
   | (with_reducible exact ih1 _ _ _ _ _ _ _)
   | (with_reducible exact ih2 _ _ _ _ _ _)
   | (with_reducible exact LeO.refl _)
   | (with_reducible exact LeO.none _)
   | (with_reducible refine LeO.ite ?_ ?_)
   | (with_reducible refine LeO.bind ?_ (fun _ => ?_))
   | exact ih0 _ _ _ _ _
   | exact ih1 _ _ _ _ _ _ _
   | exact ih2 _ _ _ _ _ _
   | exact LeO.none _
   | refine LeO.ite ?_ ?_
   | refine LeO.bind ?_ (fun _ => ?_)
theorem octroiref33_Names.mono : ∀ a0 a1 a2 a3 a4 k, LeO (octroiref33_Names.f k a0 a1 a2 a3 a4) (octroiref33_Names.f (k + 1) a0 a1 a2 a3 a4) := by
 intro a0 a1 a2 a3 a4 k
 obtain ⟨ih0, ih1, ih2⟩ := octroiref33_Names.mono_l k
 exact ih0 a0 a1 a2 a3 a4
set_option maxHeartbeats 8000000 in
set_option maxRecDepth 100000 in
theorem octroiref33_Names.calls (k : Nat) : ∀ (a0_0 a0_1 : Int) (a0_2 : ByteArray) (A0_3 : Option Addr) (c0_3 : Nat) (l0_3 : List (S70)) (A0_4 : Option Addr) (c0_4 : Nat) (l0_4 : List (S25)) (r : Bool) (w : World) (hr0_3 : Kd.C k70 w A0_3 l0_3.length l0_3) (hc0_3 : l0_3.length ≤ c0_3) (hr0_4 : Kd.C k25 w A0_4 l0_4.length l0_4) (hc0_4 : l0_4.length ≤ c0_4) (h : octroiref33_Names.f k a0_0 a0_1 a0_2 l0_3 l0_4 = some r),
  Calls Tryz.prog 111 #[.agg #[.int .i64 a0_0, .int .i64 a0_1, .string a0_2, .slice A0_3 l0_3.length c0_3, .slice A0_4 l0_4.length c0_4]] w fun e w' => e = .returned (.bool r) ∧ Below w.heap.size w w' := by
 induction k using Nat.strongRecOn with
 | _ k ih =>
 intro a0_0 a0_1 a0_2 A0_3 c0_3 l0_3 A0_4 c0_4 l0_4 r w hr0_3 hc0_3 hr0_4 hc0_4 h
 cases k with
 | zero => exact absurd h (by simp [octroiref33_Names.f])
 | succ k =>
 simp only [octroiref33_Names.f] at h
 have hu25 := Tryz.underlying25
 have hu45 := Tryz.underlying45
 have HR0_3 := A0m hr0_3
 have HC0_3 := A0m hc0_3
 clear hr0_3 hc0_3
 have HR0_4 := A0m hr0_4
 have HC0_4 := A0m hc0_4
 clear hr0_4 hc0_4
 have HB := A0m (Below.refl w.heap.size w)
 have H : (if a0_0 = 3 then ((octroiref25_Field.f 0 0 0 0 0 0 (⟨#[]⟩ : ByteArray) false 0 0 0 (⟨#[]⟩ : ByteArray) (⟨#[]⟩ : ByteArray) 0 0 0 false a0_2).bind fun bt434 => (octroiref33_Names.l0 k bt434.2 0 a0_0 a0_1 a0_2 l0_3 l0_4)) else (octroiref33_Names.l1 k 0 a0_0 a0_1 a0_2 l0_3 l0_4)) = some r := h
 clear h
 by_cases c2 : a0_0 = 3
 ·rw [if_pos c2] at H
  have c2b0 : (a0_0 == 3) = true := beq_iff_eq.mpr c2
  have c2b1 : (a0_0 != 3) = false := bne_eq_false_iff_eq.mpr c2
  clear c2
  replace H := Option.bind_eq_some_iff.mp H
  obtain ⟨⟨t434, t435⟩, A30, H⟩ := H
  replace H : (octroiref33_Names.l0 k t435 0 a0_0 a0_1 a0_2 l0_3 l0_4) = some r := H
  have A3 := A0m A30
  clear A30
  have H' := A0m H
  clear H
  go_enter Tryz.func111, Tryz.ntmps111
  go_wp2_with (first | ((with_reducible refine gate_dst (N := 1) rfl ?_); refine box_event ?hg (N := 1) ?hd (cs := #[.int .i64 a0_0, .int .i64 a0_1, .string a0_2, .slice A0_3 l0_3.length c0_3, .slice A0_4 l0_4.length c0_4]) (t := 25) ?hr ?_; (case hd => rfl); (case hg => rfl); (case hr => first | (go_simp; done) | (go_simp; rfl)); intro gb433 hg w4 hbox hb; have n0_ := A0m (below_step (by repeat (first | (with_reducible first | exact HB.out | apply bA | apply bN | apply bD) | exact HB.out)) hb); have n1_ := A0m (hbox); have n2_ := A0m ((by rw [hg]; exact (below_size (by repeat (first | (with_reducible first | exact HB.out | apply bA | apply bN | apply bD) | exact HB.out))) : w.heap.size ≤ gb433)); have n3_ := A0m ((by rw [hg]; exact (below_size (by repeat (first | (with_reducible first | exact HB.out | apply bA | apply bN | apply bD) | exact HB.out))) : w.heap.size ≤ gb433)); clear HB; have HB := n0_; have BK433 := n1_; have GW433 := n2_; have GE433 := n3_; clear n0_ n1_ n2_ n3_; clear hb hbox hg; have hcz5_0 : w4.cell? ⟨gb433, 0, none⟩ = some (.int .i64 a0_0) := (kC BK433.out 0).trans rfl; have hcz5_1 : w4.cell? ⟨gb433, 1, none⟩ = some (.int .i64 a0_1) := (kC BK433.out 1).trans rfl; have hcz5_2 : w4.cell? ⟨gb433, 2, none⟩ = some (.string a0_2) := (kC BK433.out 2).trans rfl; have hcz5_3 : w4.cell? ⟨gb433, 3, none⟩ = some (.slice A0_3 l0_3.length c0_3) := (kC BK433.out 3).trans rfl; have hcz5_4 : w4.cell? ⟨gb433, 4, none⟩ = some (.slice A0_4 l0_4.length c0_4) := (kC BK433.out 4).trans rfl; have hfz5_0 := kF BK433.out 0; have hfz5_1 := kF BK433.out 1; have hfz5_2 := kF BK433.out 2; have hfz5_3 := kF BK433.out 3; have hfz5_4 := kF BK433.out 4) | ((with_reducible refine gate_callee (f := 112) rfl ?_); refine goesL_ (some 16) rfl rfl Tryz.func112 (by kernel_rfl) rfl #[.agg #[.int .i64 0, .int .i64 0, .int .i64 0, .int .i64 0, .int .i64 0, .int .i64 0, .string (⟨#[]⟩ : ByteArray), .bool false, .int .i64 0, .int .i64 0, .int .i64 0, .string (⟨#[]⟩ : ByteArray), .string (⟨#[]⟩ : ByteArray), .int .i64 0, .int .i64 0, .int .i64 0, .bool false], .string a0_2] rfl (by (try simp only [List.map_toArray, List.map_cons, List.map_nil]); first | done | rfl | (simp only [List.length_drop, List.length_take]; rfl)) ?_; (with_reducible refine (octroiref25_Field.calls 0 0 0 0 0 0 (⟨#[]⟩ : ByteArray) false 0 0 0 (⟨#[]⟩ : ByteArray) (⟨#[]⟩ : ByteArray) 0 0 0 false a0_2 t434 t435 _ A3.out).mono ?_); rintro e w6 ⟨rfl, hb⟩; refine ⟨_, rfl, ?_⟩; have n0_ := A0m (blk_below (g := gb433) (o := .cells #[.int .i64 a0_0, .int .i64 a0_1, .string a0_2, .slice A0_3 l0_3.length c0_3, .slice A0_4 l0_4.length c0_4] 25 (0, 0)) (by (with_reducible repeat (first | refine kN ?_ _ | refine kD ?_ | refine kA ?_ _)); exact BK433.out) hb); have n1_ := A0m (below_step (by repeat (first | (with_reducible first | exact HB.out | apply bA | apply bN | apply bD | refine bS ?_ GE433.out) | exact HB.out)) hb); clear BK433; clear HB; have BK433 := n0_; have HB := n1_; clear n0_ n1_; (try clear hb); (try clear hb2); (try clear hk); (try clear hi)))
  go_loopg [4, 5] k (fun kq v4 v5 w' => ∃ (x4_1 : Bool) (x5_1 : Int), v4 = .bool x4_1 ∧ v5 = .int .i64 x5_1 ∧ Aside0 (octroiref33_Names.l0 kq x4_1 x5_1 a0_0 a0_1 a0_2 l0_3 l0_4 = some r) ∧ Aside0 (kq ≤ k) ∧ Aside0 (w'.heap[gb433]? = some (.cells #[.int .i64 a0_0, .int .i64 a0_1, .string a0_2, (.slice A0_3 l0_3.length c0_3), (.slice A0_4 l0_4.length c0_4)] 25 (0, 0))) ∧ Aside0 (Below w.heap.size w w'))
  case atStart => exact ⟨(t435), (0), (by first | rfl | (simp; done) | (simp [*]; done)), (by first | rfl | (simp; done) | (simp [*]; done)), H', ⟨Nat.le_refl _⟩, ⟨by (with_reducible repeat (first | refine kN ?_ _ | refine kD ?_ | refine kA ?_ _)); exact BK433.out⟩, ⟨by repeat (first | (with_reducible first | exact HB.out | apply bA | apply bN | apply bD | refine bS ?_ GE433.out) | exact HB.out)⟩⟩
  case round =>
   clear H'
   try clear c1
   try clear c2
   try clear c2b0
   try clear c2b1
   try clear p2
   try clear hcz5_0
   try clear hcz5_1
   try clear hcz5_2
   try clear hcz5_3
   try clear hcz5_4
   try clear hfz5_0
   try clear hfz5_1
   try clear hfz5_2
   try clear hfz5_3
   try clear hfz5_4
   obtain ⟨x4_1, x5_1, rfl, rfl, HA, HK1, BK433, HB⟩ := hrel
   cases gk with
   | zero => exact absurd HA.out (by simp [octroiref33_Names.l0])
   | succ k1 =>
    have H := HA.out
    clear HA
    simp only [octroiref33_Names.l0] at H
    by_cases c7 : x5_1 < (l0_3.length : Int)
    ·rw [if_pos c7] at H
     have c7b0 : decide (x5_1 < (l0_3.length : Int)) = true := decide_eq_true c7
     clear c7
     by_cases c8 : 0 ≤ x5_1
     ·rw [if_pos c8] at H
      have c8b0 : decide (0 ≤ x5_1) = true := decide_eq_true c8
      clear c8
      replace H := Option.bind_eq_some_iff.mp H
      obtain ⟨⟨t437, t438⟩, A90, H⟩ := H
      replace H : (if x4_1 = true then (octroiref33_Names.l0 k1 t438 (wrap64 (x5_1 + 1)) a0_0 a0_1 a0_2 l0_3 l0_4) else (octroiref33_Names.l0 k1 false (wrap64 (x5_1 + 1)) a0_0 a0_1 a0_2 l0_3 l0_4)) = some r := H
      have A9 := A0m A90
      clear A90
      by_cases c10 : x4_1 = true
      ·subst c10
       have H1 : (octroiref33_Names.l0 k1 t438 (wrap64 (x5_1 + 1)) a0_0 a0_1 a0_2 l0_3 l0_4) = some r := by rw [if_pos rfl] at H; exact H
       clear H
       have H := H1
       clear H1
       have H' := A0m H
       clear H
       have hcz11_0 : wr.cell? ⟨gb433, 0, none⟩ = some (.int .i64 a0_0) := (kC BK433.out 0).trans rfl
       have hcz11_1 : wr.cell? ⟨gb433, 1, none⟩ = some (.int .i64 a0_1) := (kC BK433.out 1).trans rfl
       have hcz11_2 : wr.cell? ⟨gb433, 2, none⟩ = some (.string a0_2) := (kC BK433.out 2).trans rfl
       have hcz11_3 : wr.cell? ⟨gb433, 3, none⟩ = some (.slice A0_3 l0_3.length c0_3) := (kC BK433.out 3).trans rfl
       have hcz11_4 : wr.cell? ⟨gb433, 4, none⟩ = some (.slice A0_4 l0_4.length c0_4) := (kC BK433.out 4).trans rfl
       have hfz11_0 := kF BK433.out 0
       have hfz11_1 := kF BK433.out 1
       have hfz11_2 := kF BK433.out 2
       have hfz11_3 := kF BK433.out 3
       have hfz11_4 := kF BK433.out 4
       have p436 : 0 ≤ (x5_1 : Int) := dT (by first | (with_reducible assumption) | assumption)
       have q436 : x5_1 < (l0_3.length : Int) := dT (by first | (with_reducible assumption) | assumption)
       obtain ⟨ad436, e436, hx436_0, hx436_1, hx436_2⟩ := at_T70 HR0_3.out x5_1 p436 q436
       cases e436
       replace hx436_0 := (HB.out.cell (wL w _ hx436_0)).trans hx436_0
       replace hx436_1 := (HB.out.cell (wL w _ hx436_1)).trans hx436_1
       replace hx436_2 := (HB.out.cell (wL w _ hx436_2)).trans hx436_2
       replace p436 := eq_true p436
       replace q436 := eq_true q436
       go_wp2_with (first | ((with_reducible refine gate_callee (f := 31) rfl ?_); refine goesL_ (some 34) rfl rfl Tryz.func31 (by kernel_rfl) rfl #[.agg #[.int .i64 0, .int .i64 0, .int .i64 0, .int .i64 0, .int .i64 0, .int .i64 0, .string (⟨#[]⟩ : ByteArray), .bool false, .int .i64 0, .int .i64 0, .int .i64 0, .string (⟨#[]⟩ : ByteArray), .string (⟨#[]⟩ : ByteArray), .int .i64 0, .int .i64 0, .int .i64 0, .bool false], .string ((rd_T70 l0_3 x5_1).f0)] rfl (by (try simp only [List.map_toArray, List.map_cons, List.map_nil]); first | done | rfl | (simp only [List.length_drop, List.length_take]; rfl)) ?_; (with_reducible refine (octroiref25_Tag.calls 0 0 0 0 0 0 (⟨#[]⟩ : ByteArray) false 0 0 0 (⟨#[]⟩ : ByteArray) (⟨#[]⟩ : ByteArray) 0 0 0 false ((rd_T70 l0_3 x5_1).f0) t437 t438 _ A9.out).mono ?_); rintro e w12 ⟨rfl, hb⟩; refine ⟨_, rfl, ?_⟩; have n0_ := A0m (blk_below (g := gb433) (o := .cells #[.int .i64 a0_0, .int .i64 a0_1, .string a0_2, .slice (some ad436) l0_3.length c0_3, .slice A0_4 l0_4.length c0_4] 25 (0, 0)) (by (with_reducible repeat (first | refine kN ?_ _ | refine kD ?_ | refine kA ?_ _)); exact BK433.out) hb); have n1_ := A0m (below_step (by repeat (first | (with_reducible first | exact HB.out | apply bA | apply bN | apply bD | refine bS ?_ GE433.out) | exact HB.out)) hb); clear BK433; clear HB; have BK433 := n0_; have HB := n1_; clear n0_ n1_; (try clear hb); (try clear hb2); (try clear hk); (try clear hi)))
       go_roundg k1
       case measure => have := HK1.out; omega
       case rel => exact ⟨(t438), (wrap64 (x5_1 + 1)), (by first | rfl | (simp; done) | (simp [*]; done)), (by first | rfl | (simp; done) | (simp [*]; done)), H', ⟨by have := HK1.out; omega⟩, ⟨by (with_reducible repeat (first | refine kN ?_ _ | refine kD ?_ | refine kA ?_ _)); exact BK433.out⟩, ⟨by repeat (first | (with_reducible first | exact HB.out | apply bA | apply bN | apply bD | refine bS ?_ GE433.out) | exact HB.out)⟩⟩
      ·replace c10 := Bool.eq_false_iff.mpr c10
       subst c10
       have H1 : (octroiref33_Names.l0 k1 false (wrap64 (x5_1 + 1)) a0_0 a0_1 a0_2 l0_3 l0_4) = some r := by rw [if_neg (show ¬ (false = true) by decide)] at H; exact H
       clear H
       have H := H1
       clear H1
       have H' := A0m H
       clear H
       have hcz13_0 : wr.cell? ⟨gb433, 0, none⟩ = some (.int .i64 a0_0) := (kC BK433.out 0).trans rfl
       have hcz13_1 : wr.cell? ⟨gb433, 1, none⟩ = some (.int .i64 a0_1) := (kC BK433.out 1).trans rfl
       have hcz13_2 : wr.cell? ⟨gb433, 2, none⟩ = some (.string a0_2) := (kC BK433.out 2).trans rfl
       have hcz13_3 : wr.cell? ⟨gb433, 3, none⟩ = some (.slice A0_3 l0_3.length c0_3) := (kC BK433.out 3).trans rfl
       have hcz13_4 : wr.cell? ⟨gb433, 4, none⟩ = some (.slice A0_4 l0_4.length c0_4) := (kC BK433.out 4).trans rfl
       have hfz13_0 := kF BK433.out 0
       have hfz13_1 := kF BK433.out 1
       have hfz13_2 := kF BK433.out 2
       have hfz13_3 := kF BK433.out 3
       have hfz13_4 := kF BK433.out 4
       have p436 : 0 ≤ (x5_1 : Int) := dT (by first | (with_reducible assumption) | assumption)
       have q436 : x5_1 < (l0_3.length : Int) := dT (by first | (with_reducible assumption) | assumption)
       obtain ⟨ad436, e436, hx436_0, hx436_1, hx436_2⟩ := at_T70 HR0_3.out x5_1 p436 q436
       cases e436
       replace hx436_0 := (HB.out.cell (wL w _ hx436_0)).trans hx436_0
       replace hx436_1 := (HB.out.cell (wL w _ hx436_1)).trans hx436_1
       replace hx436_2 := (HB.out.cell (wL w _ hx436_2)).trans hx436_2
       replace p436 := eq_true p436
       replace q436 := eq_true q436
       go_wp2_with (first | ((with_reducible refine gate_callee (f := 31) rfl ?_); refine goesL_ (some 34) rfl rfl Tryz.func31 (by kernel_rfl) rfl #[.agg #[.int .i64 0, .int .i64 0, .int .i64 0, .int .i64 0, .int .i64 0, .int .i64 0, .string (⟨#[]⟩ : ByteArray), .bool false, .int .i64 0, .int .i64 0, .int .i64 0, .string (⟨#[]⟩ : ByteArray), .string (⟨#[]⟩ : ByteArray), .int .i64 0, .int .i64 0, .int .i64 0, .bool false], .string ((rd_T70 l0_3 x5_1).f0)] rfl (by (try simp only [List.map_toArray, List.map_cons, List.map_nil]); first | done | rfl | (simp only [List.length_drop, List.length_take]; rfl)) ?_; (with_reducible refine (octroiref25_Tag.calls 0 0 0 0 0 0 (⟨#[]⟩ : ByteArray) false 0 0 0 (⟨#[]⟩ : ByteArray) (⟨#[]⟩ : ByteArray) 0 0 0 false ((rd_T70 l0_3 x5_1).f0) t437 t438 _ A9.out).mono ?_); rintro e w14 ⟨rfl, hb⟩; refine ⟨_, rfl, ?_⟩; have n0_ := A0m (blk_below (g := gb433) (o := .cells #[.int .i64 a0_0, .int .i64 a0_1, .string a0_2, .slice (some ad436) l0_3.length c0_3, .slice A0_4 l0_4.length c0_4] 25 (0, 0)) (by (with_reducible repeat (first | refine kN ?_ _ | refine kD ?_ | refine kA ?_ _)); exact BK433.out) hb); have n1_ := A0m (below_step (by repeat (first | (with_reducible first | exact HB.out | apply bA | apply bN | apply bD | refine bS ?_ GE433.out) | exact HB.out)) hb); clear BK433; clear HB; have BK433 := n0_; have HB := n1_; clear n0_ n1_; (try clear hb); (try clear hb2); (try clear hk); (try clear hi)))
       go_roundg k1
       case measure => have := HK1.out; omega
       case rel => exact ⟨(false), (wrap64 (x5_1 + 1)), (by first | rfl | (simp; done) | (simp [*]; done)), (by first | rfl | (simp; done) | (simp [*]; done)), H', ⟨by have := HK1.out; omega⟩, ⟨by (with_reducible repeat (first | refine kN ?_ _ | refine kD ?_ | refine kA ?_ _)); exact BK433.out⟩, ⟨by repeat (first | (with_reducible first | exact HB.out | apply bA | apply bN | apply bD | refine bS ?_ GE433.out) | exact HB.out)⟩⟩
     ·rw [if_neg c8] at H
      exact absurd H (by simp)
    ·rw [if_neg c7] at H
     have c7b0 : decide (x5_1 < (l0_3.length : Int)) = false := decide_eq_false c7
     clear c7
     obtain rfl := Option.some.inj H
     have hcz15_0 : wr.cell? ⟨gb433, 0, none⟩ = some (.int .i64 a0_0) := (kC BK433.out 0).trans rfl
     have hcz15_1 : wr.cell? ⟨gb433, 1, none⟩ = some (.int .i64 a0_1) := (kC BK433.out 1).trans rfl
     have hcz15_2 : wr.cell? ⟨gb433, 2, none⟩ = some (.string a0_2) := (kC BK433.out 2).trans rfl
     have hcz15_3 : wr.cell? ⟨gb433, 3, none⟩ = some (.slice A0_3 l0_3.length c0_3) := (kC BK433.out 3).trans rfl
     have hcz15_4 : wr.cell? ⟨gb433, 4, none⟩ = some (.slice A0_4 l0_4.length c0_4) := (kC BK433.out 4).trans rfl
     have hfz15_0 := kF BK433.out 0
     have hfz15_1 := kF BK433.out 1
     have hfz15_2 := kF BK433.out 2
     have hfz15_3 := kF BK433.out 3
     have hfz15_4 := kF BK433.out 4
     go_wp2
     go_ret
     exact ⟨by first | rfl | (simp [errW_none, errW_some] <;> rfl) | (simp [*, errW_none, errW_some] <;> rfl), by repeat (first | (with_reducible first | exact HB.out | apply bA | apply bN | apply bD | refine bS ?_ GE433.out) | exact HB.out)⟩
 ·rw [if_neg c2] at H
  have c2b0 : (a0_0 == 3) = false := beq_eq_false_iff_ne.mpr c2
  have c2b1 : (a0_0 != 3) = true := bne_iff_ne.mpr c2
  have H' := A0m H
  clear H
  go_enter Tryz.func111, Tryz.ntmps111
  go_wp2_with (first | ((with_reducible refine gate_dst (N := 1) rfl ?_); refine box_event ?hg (N := 1) ?hd (cs := #[.int .i64 a0_0, .int .i64 a0_1, .string a0_2, .slice A0_3 l0_3.length c0_3, .slice A0_4 l0_4.length c0_4]) (t := 25) ?hr ?_; (case hd => rfl); (case hg => rfl); (case hr => first | (go_simp; done) | (go_simp; rfl)); intro gb433 hg w16 hbox hb; have n0_ := A0m (below_step (by repeat (first | (with_reducible first | exact HB.out | apply bA | apply bN | apply bD) | exact HB.out)) hb); have n1_ := A0m (hbox); have n2_ := A0m ((by rw [hg]; exact (below_size (by repeat (first | (with_reducible first | exact HB.out | apply bA | apply bN | apply bD) | exact HB.out))) : w.heap.size ≤ gb433)); have n3_ := A0m ((by rw [hg]; exact (below_size (by repeat (first | (with_reducible first | exact HB.out | apply bA | apply bN | apply bD) | exact HB.out))) : w.heap.size ≤ gb433)); clear HB; have HB := n0_; have BK433 := n1_; have GW433 := n2_; have GE433 := n3_; clear n0_ n1_ n2_ n3_; clear hb hbox hg; have hcz17_0 : w16.cell? ⟨gb433, 0, none⟩ = some (.int .i64 a0_0) := (kC BK433.out 0).trans rfl; have hcz17_1 : w16.cell? ⟨gb433, 1, none⟩ = some (.int .i64 a0_1) := (kC BK433.out 1).trans rfl; have hcz17_2 : w16.cell? ⟨gb433, 2, none⟩ = some (.string a0_2) := (kC BK433.out 2).trans rfl; have hcz17_3 : w16.cell? ⟨gb433, 3, none⟩ = some (.slice A0_3 l0_3.length c0_3) := (kC BK433.out 3).trans rfl; have hcz17_4 : w16.cell? ⟨gb433, 4, none⟩ = some (.slice A0_4 l0_4.length c0_4) := (kC BK433.out 4).trans rfl; have hfz17_0 := kF BK433.out 0; have hfz17_1 := kF BK433.out 1; have hfz17_2 := kF BK433.out 2; have hfz17_3 := kF BK433.out 3; have hfz17_4 := kF BK433.out 4))
  go_loopg [8] k (fun kq v8 w' => ∃ (x8_1 : Int), v8 = .int .i64 x8_1 ∧ Aside0 (octroiref33_Names.l1 kq x8_1 a0_0 a0_1 a0_2 l0_3 l0_4 = some r) ∧ Aside0 (kq ≤ k) ∧ Aside0 (w'.heap[gb433]? = some (.cells #[.int .i64 a0_0, .int .i64 a0_1, .string a0_2, (.slice A0_3 l0_3.length c0_3), (.slice A0_4 l0_4.length c0_4)] 25 (0, 0))) ∧ Aside0 (Below w.heap.size w w'))
  case atStart => exact ⟨(0), (by first | rfl | (simp; done) | (simp [*]; done)), H', ⟨Nat.le_refl _⟩, ⟨by (with_reducible repeat (first | refine kN ?_ _ | refine kD ?_ | refine kA ?_ _)); exact BK433.out⟩, ⟨by repeat (first | (with_reducible first | exact HB.out | apply bA | apply bN | apply bD | refine bS ?_ GE433.out) | exact HB.out)⟩⟩
  case round =>
   clear H'
   try clear c1
   try clear c2
   try clear c2b0
   try clear c2b1
   try clear p2
   try clear c3
   try clear p4
   try clear q4
   try clear hx4
   try clear p6
   try clear c7
   try clear c7b0
   try clear c8
   try clear c8b0
   try clear c10
   try clear c11
   try clear hcz11_0
   try clear hcz11_1
   try clear hcz11_2
   try clear hcz11_3
   try clear hcz11_4
   try clear hcz13_0
   try clear hcz13_1
   try clear hcz13_2
   try clear hcz13_3
   try clear hcz13_4
   try clear hcz15_0
   try clear hcz15_1
   try clear hcz15_2
   try clear hcz15_3
   try clear hcz15_4
   try clear hcz17_0
   try clear hcz17_1
   try clear hcz17_2
   try clear hcz17_3
   try clear hcz17_4
   try clear hcz5_0
   try clear hcz5_1
   try clear hcz5_2
   try clear hcz5_3
   try clear hcz5_4
   try clear hfz11_0
   try clear hfz11_1
   try clear hfz11_2
   try clear hfz11_3
   try clear hfz11_4
   try clear hfz13_0
   try clear hfz13_1
   try clear hfz13_2
   try clear hfz13_3
   try clear hfz13_4
   try clear hfz15_0
   try clear hfz15_1
   try clear hfz15_2
   try clear hfz15_3
   try clear hfz15_4
   try clear hfz17_0
   try clear hfz17_1
   try clear hfz17_2
   try clear hfz17_3
   try clear hfz17_4
   try clear hfz5_0
   try clear hfz5_1
   try clear hfz5_2
   try clear hfz5_3
   try clear hfz5_4
   try clear hx436_0
   try clear hx436_1
   try clear hx436_2
   try clear p2
   try clear p436
   try clear q436
   obtain ⟨x8_1, rfl, HA, HK1, BK433, HB⟩ := hrel
   cases gk with
   | zero => exact absurd HA.out (by simp [octroiref33_Names.l1])
   | succ k1 =>
    have H := HA.out
    clear HA
    simp only [octroiref33_Names.l1] at H
    by_cases c18 : x8_1 < (l0_4.length : Int)
    ·rw [if_pos c18] at H
     have c18b0 : decide (x8_1 < (l0_4.length : Int)) = true := decide_eq_true c18
     clear c18
     by_cases c19 : 0 ≤ x8_1
     ·rw [if_pos c19] at H
      have c19b0 : decide (0 ≤ x8_1) = true := decide_eq_true c19
      clear c19
      replace H := Option.bind_eq_some_iff.mp H
      obtain ⟨t440, A200, H⟩ := H
      replace H : (if t440 = true then (octroiref33_Names.l1 k1 (wrap64 (x8_1 + 1)) a0_0 a0_1 a0_2 l0_3 l0_4) else (some false)) = some r := H
      have A20 := A0m A200
      clear A200
      by_cases c21 : t440 = true
      ·subst c21
       have H1 : (octroiref33_Names.l1 k1 (wrap64 (x8_1 + 1)) a0_0 a0_1 a0_2 l0_3 l0_4) = some r := by rw [if_pos rfl] at H; exact H
       clear H
       have H := H1
       clear H1
       have H' := A0m H
       clear H
       have hcz22_0 : wr.cell? ⟨gb433, 0, none⟩ = some (.int .i64 a0_0) := (kC BK433.out 0).trans rfl
       have hcz22_1 : wr.cell? ⟨gb433, 1, none⟩ = some (.int .i64 a0_1) := (kC BK433.out 1).trans rfl
       have hcz22_2 : wr.cell? ⟨gb433, 2, none⟩ = some (.string a0_2) := (kC BK433.out 2).trans rfl
       have hcz22_3 : wr.cell? ⟨gb433, 3, none⟩ = some (.slice A0_3 l0_3.length c0_3) := (kC BK433.out 3).trans rfl
       have hcz22_4 : wr.cell? ⟨gb433, 4, none⟩ = some (.slice A0_4 l0_4.length c0_4) := (kC BK433.out 4).trans rfl
       have hfz22_0 := kF BK433.out 0
       have hfz22_1 := kF BK433.out 1
       have hfz22_2 := kF BK433.out 2
       have hfz22_3 := kF BK433.out 3
       have hfz22_4 := kF BK433.out 4
       have p439 : 0 ≤ (x8_1 : Int) := dT (by first | (with_reducible assumption) | assumption)
       have q439 : x8_1 < (l0_4.length : Int) := dT (by first | (with_reducible assumption) | assumption)
       obtain ⟨ad439, A439_3, c439_3, A439_4, c439_4, e439, hx439_0, hx439_1, hx439_2, hx439_3, hx439_4, hl439_3, hi439_3, hl439_4, hi439_4⟩ := at_T25 HR0_4.out x8_1 p439 q439
       cases e439
       replace hx439_0 := (HB.out.cell (wL w _ hx439_0)).trans hx439_0
       replace hx439_1 := (HB.out.cell (wL w _ hx439_1)).trans hx439_1
       replace hx439_2 := (HB.out.cell (wL w _ hx439_2)).trans hx439_2
       replace hx439_3 := (HB.out.cell (wL w _ hx439_3)).trans hx439_3
       replace hx439_4 := (HB.out.cell (wL w _ hx439_4)).trans hx439_4
       have HR439_3 := A0m hi439_3
       have HC439_3 := A0m hl439_3
       clear hi439_3 hl439_3
       have HR439_4 := A0m hi439_4
       have HC439_4 := A0m hl439_4
       clear hi439_4 hl439_4
       replace p439 := eq_true p439
       replace q439 := eq_true q439
       go_wp2_with (first | ((with_reducible refine gate_callee (f := 111) rfl ?_); refine goesL_ (some 54) rfl rfl Tryz.func111 (by kernel_rfl) rfl #[.agg #[.int .i64 ((rd_T25 l0_4 x8_1).f0), .int .i64 ((rd_T25 l0_4 x8_1).f1), .string ((rd_T25 l0_4 x8_1).f2), .slice A439_3 ((rd_T25 l0_4 x8_1).f3).length c439_3, .slice A439_4 ((rd_T25 l0_4 x8_1).f4).length c439_4]] rfl (by (try simp only [List.map_toArray, List.map_cons, List.map_nil]); first | done | rfl | (simp only [List.length_drop, List.length_take]; rfl)) ?_; (with_reducible refine (ih k1 (by have := HK1.out; omega) ((rd_T25 l0_4 x8_1).f0) ((rd_T25 l0_4 x8_1).f1) ((rd_T25 l0_4 x8_1).f2) _ _ ((rd_T25 l0_4 x8_1).f3) _ _ ((rd_T25 l0_4 x8_1).f4) true _ ?side1 ?side2 ?side3 ?side4 A20.out).mono ?_); (case side1 => repeat (first | exact (Kd.C_below HR439_3.out HB.out) | (with_reducible refine Kd.C_alloc ?_ _) | (with_reducible refine Kd.C_drewN ?_ _) | (with_reducible refine Kd.C_drew ?_))); (case side2 => exact HC439_3.out); (case side3 => repeat (first | exact (Kd.C_below HR439_4.out HB.out) | (with_reducible refine Kd.C_alloc ?_ _) | (with_reducible refine Kd.C_drewN ?_ _) | (with_reducible refine Kd.C_drew ?_))); (case side4 => exact HC439_4.out); rintro e w23 ⟨rfl, hb⟩; refine ⟨_, rfl, ?_⟩; have n0_ := A0m (blk_below (g := gb433) (o := .cells #[.int .i64 a0_0, .int .i64 a0_1, .string a0_2, .slice A0_3 l0_3.length c0_3, .slice (some ad439) l0_4.length c0_4] 25 (0, 0)) (by (with_reducible repeat (first | refine kN ?_ _ | refine kD ?_ | refine kA ?_ _)); exact BK433.out) hb); have n1_ := A0m (below_step (by repeat (first | (with_reducible first | exact HB.out | apply bA | apply bN | apply bD | refine bS ?_ GE433.out) | exact HB.out)) hb); clear BK433; clear HB; have BK433 := n0_; have HB := n1_; clear n0_ n1_; (try clear hb); (try clear hb2); (try clear hk); (try clear hi)))
       go_roundg k1
       case measure => have := HK1.out; omega
       case rel => exact ⟨(wrap64 (x8_1 + 1)), (by first | rfl | (simp; done) | (simp [*]; done)), H', ⟨by have := HK1.out; omega⟩, ⟨by (with_reducible repeat (first | refine kN ?_ _ | refine kD ?_ | refine kA ?_ _)); exact BK433.out⟩, ⟨by repeat (first | (with_reducible first | exact HB.out | apply bA | apply bN | apply bD | refine bS ?_ GE433.out) | exact HB.out)⟩⟩
      ·replace c21 := Bool.eq_false_iff.mpr c21
       subst c21
       have H1 : (some false) = some r := by rw [if_neg (show ¬ (false = true) by decide)] at H; exact H
       clear H
       have H := H1
       clear H1
       obtain rfl := Option.some.inj H
       have hcz24_0 : wr.cell? ⟨gb433, 0, none⟩ = some (.int .i64 a0_0) := (kC BK433.out 0).trans rfl
       have hcz24_1 : wr.cell? ⟨gb433, 1, none⟩ = some (.int .i64 a0_1) := (kC BK433.out 1).trans rfl
       have hcz24_2 : wr.cell? ⟨gb433, 2, none⟩ = some (.string a0_2) := (kC BK433.out 2).trans rfl
       have hcz24_3 : wr.cell? ⟨gb433, 3, none⟩ = some (.slice A0_3 l0_3.length c0_3) := (kC BK433.out 3).trans rfl
       have hcz24_4 : wr.cell? ⟨gb433, 4, none⟩ = some (.slice A0_4 l0_4.length c0_4) := (kC BK433.out 4).trans rfl
       have hfz24_0 := kF BK433.out 0
       have hfz24_1 := kF BK433.out 1
       have hfz24_2 := kF BK433.out 2
       have hfz24_3 := kF BK433.out 3
       have hfz24_4 := kF BK433.out 4
       have p439 : 0 ≤ (x8_1 : Int) := dT (by first | (with_reducible assumption) | assumption)
       have q439 : x8_1 < (l0_4.length : Int) := dT (by first | (with_reducible assumption) | assumption)
       obtain ⟨ad439, A439_3, c439_3, A439_4, c439_4, e439, hx439_0, hx439_1, hx439_2, hx439_3, hx439_4, hl439_3, hi439_3, hl439_4, hi439_4⟩ := at_T25 HR0_4.out x8_1 p439 q439
       cases e439
       replace hx439_0 := (HB.out.cell (wL w _ hx439_0)).trans hx439_0
       replace hx439_1 := (HB.out.cell (wL w _ hx439_1)).trans hx439_1
       replace hx439_2 := (HB.out.cell (wL w _ hx439_2)).trans hx439_2
       replace hx439_3 := (HB.out.cell (wL w _ hx439_3)).trans hx439_3
       replace hx439_4 := (HB.out.cell (wL w _ hx439_4)).trans hx439_4
       have HR439_3 := A0m hi439_3
       have HC439_3 := A0m hl439_3
       clear hi439_3 hl439_3
       have HR439_4 := A0m hi439_4
       have HC439_4 := A0m hl439_4
       clear hi439_4 hl439_4
       replace p439 := eq_true p439
       replace q439 := eq_true q439
       go_wp2_with (first | ((with_reducible refine gate_callee (f := 111) rfl ?_); refine goesL_ (some 54) rfl rfl Tryz.func111 (by kernel_rfl) rfl #[.agg #[.int .i64 ((rd_T25 l0_4 x8_1).f0), .int .i64 ((rd_T25 l0_4 x8_1).f1), .string ((rd_T25 l0_4 x8_1).f2), .slice A439_3 ((rd_T25 l0_4 x8_1).f3).length c439_3, .slice A439_4 ((rd_T25 l0_4 x8_1).f4).length c439_4]] rfl (by (try simp only [List.map_toArray, List.map_cons, List.map_nil]); first | done | rfl | (simp only [List.length_drop, List.length_take]; rfl)) ?_; (with_reducible refine (ih k1 (by have := HK1.out; omega) ((rd_T25 l0_4 x8_1).f0) ((rd_T25 l0_4 x8_1).f1) ((rd_T25 l0_4 x8_1).f2) _ _ ((rd_T25 l0_4 x8_1).f3) _ _ ((rd_T25 l0_4 x8_1).f4) false _ ?side1 ?side2 ?side3 ?side4 A20.out).mono ?_); (case side1 => repeat (first | exact (Kd.C_below HR439_3.out HB.out) | (with_reducible refine Kd.C_alloc ?_ _) | (with_reducible refine Kd.C_drewN ?_ _) | (with_reducible refine Kd.C_drew ?_))); (case side2 => exact HC439_3.out); (case side3 => repeat (first | exact (Kd.C_below HR439_4.out HB.out) | (with_reducible refine Kd.C_alloc ?_ _) | (with_reducible refine Kd.C_drewN ?_ _) | (with_reducible refine Kd.C_drew ?_))); (case side4 => exact HC439_4.out); rintro e w25 ⟨rfl, hb⟩; refine ⟨_, rfl, ?_⟩; have n0_ := A0m (blk_below (g := gb433) (o := .cells #[.int .i64 a0_0, .int .i64 a0_1, .string a0_2, .slice A0_3 l0_3.length c0_3, .slice (some ad439) l0_4.length c0_4] 25 (0, 0)) (by (with_reducible repeat (first | refine kN ?_ _ | refine kD ?_ | refine kA ?_ _)); exact BK433.out) hb); have n1_ := A0m (below_step (by repeat (first | (with_reducible first | exact HB.out | apply bA | apply bN | apply bD | refine bS ?_ GE433.out) | exact HB.out)) hb); clear BK433; clear HB; have BK433 := n0_; have HB := n1_; clear n0_ n1_; (try clear hb); (try clear hb2); (try clear hk); (try clear hi)))
       go_ret
       exact ⟨by first | rfl | (simp [errW_none, errW_some] <;> rfl) | (simp [*, errW_none, errW_some] <;> rfl), by repeat (first | (with_reducible first | exact HB.out | apply bA | apply bN | apply bD | refine bS ?_ GE433.out) | exact HB.out)⟩
     ·rw [if_neg c19] at H
      exact absurd H (by simp)
    ·rw [if_neg c18] at H
     have c18b0 : decide (x8_1 < (l0_4.length : Int)) = false := decide_eq_false c18
     clear c18
     obtain rfl := Option.some.inj H
     have hcz26_0 : wr.cell? ⟨gb433, 0, none⟩ = some (.int .i64 a0_0) := (kC BK433.out 0).trans rfl
     have hcz26_1 : wr.cell? ⟨gb433, 1, none⟩ = some (.int .i64 a0_1) := (kC BK433.out 1).trans rfl
     have hcz26_2 : wr.cell? ⟨gb433, 2, none⟩ = some (.string a0_2) := (kC BK433.out 2).trans rfl
     have hcz26_3 : wr.cell? ⟨gb433, 3, none⟩ = some (.slice A0_3 l0_3.length c0_3) := (kC BK433.out 3).trans rfl
     have hcz26_4 : wr.cell? ⟨gb433, 4, none⟩ = some (.slice A0_4 l0_4.length c0_4) := (kC BK433.out 4).trans rfl
     have hfz26_0 := kF BK433.out 0
     have hfz26_1 := kF BK433.out 1
     have hfz26_2 := kF BK433.out 2
     have hfz26_3 := kF BK433.out 3
     have hfz26_4 := kF BK433.out 4
     go_wp2
     go_ret
     exact ⟨by first | rfl | (simp [errW_none, errW_some] <;> rfl) | (simp [*, errW_none, errW_some] <;> rfl), by repeat (first | (with_reducible first | exact HB.out | apply bA | apply bN | apply bD | refine bS ?_ GE433.out) | exact HB.out)⟩

-- NOT PRINTED: function 64 (octroiref34_total)

/-! ### octroiref01_Turn: function 113 -/
def octroiref01_Turn.f (a0_0 : Bool) (l0_1 : List Int) : Option (Bool × List Int) := if (l0_1.length : Int) = 0 then (some (a0_0, l0_1)) else (some (!a0_0, l0_1))
set_option maxHeartbeats 8000000 in
set_option maxRecDepth 100000 in
theorem octroiref01_Turn.calls (a0_0 : Bool) (P0_1_ : Nat → Prop) (u9000_ : Value) (l0_1 : List Int) (r1 : Bool) (r2 : List Int) (w0 w : World) (hB : Below w0.heap.size w0 w) (ho0_1 : Kd.R (Kd.int .i64) 3 w w0.heap.size P0_1_ u9000_ l0_1) (h : octroiref01_Turn.f a0_0 l0_1 = some (r1, r2)) :
  Calls Tryz.prog 113 #[.agg #[.bool a0_0, u9000_]] w fun e w' => ∃ v1_ : Value, e = .returned (.agg #[.bool r1, v1_]) ∧ Kd.R (Kd.int .i64) 3 w' w0.heap.size (fun k_ => (P0_1_ k_ ∨ w.heap.size ≤ k_)) v1_ r2 ∧ Below w0.heap.size w0 w' ∧ Kept w w' (fun k_ => P0_1_ k_) := by
 have hu79 := Tryz.underlying79
 have HO0_1 := A0m (show Kd.R (Kd.int .i64) 3 w w0.heap.size (fun k_ => (P0_1_ k_ ∨ w.heap.size ≤ k_)) u9000_ l0_1 from Kd.R_mono ho0_1 (fun k_ hk => (.inl hk)))
 have HK := A0m (Kept.refl w (fun k_ => P0_1_ k_))
 have HW0 := A0m hB.size
 have HB := A0m hB
 clear hB
 have H : (if (l0_1.length : Int) = 0 then (some (a0_0, l0_1)) else (some (!a0_0, l0_1))) = some (r1, r2) := h
 clear h
 by_cases c2 : (l0_1.length : Int) = 0
 ·rw [if_pos c2] at H
  have c2b0 : ((l0_1.length : Int) == 0) = true := beq_iff_eq.mpr c2
  have c2b1 : ((l0_1.length : Int) != 0) = false := bne_eq_false_iff_eq.mpr c2
  clear c2
  simp only [Option.some.injEq, Prod.mk.injEq] at H
  obtain ⟨rfl, rfl⟩ := H
  obtain ⟨Ao3, co3, eo3⟩ := Kd.R_slice HO0_1.out
  subst eo3
  go_enter Tryz.func113, Tryz.ntmps113
  go_wp2_with (first | ((with_reducible refine gate_dst (N := 1) rfl ?_); refine box_event ?hg (N := 1) ?hd (cs := #[.bool a0_0, .slice Ao3 l0_1.length co3]) (t := 79) ?hr ?_; (case hd => rfl); (case hg => rfl); (case hr => first | (go_simp; done) | (go_simp; rfl)); intro gb446 hg w4 hbox hb; have n0_ := A0m (Kd.R_below (by (with_reducible repeat (first | apply rA | apply rN | apply rD)); exact HO0_1.out) hb); have n1_ := A0m (Kept.below (S := (fun k_ => P0_1_ k_)) (by repeat (first | (with_reducible first | exact HK.out | apply Kept.alloc | apply Kept.drewN | apply Kept.drew) | exact HK.out)) hb); have n2_ := A0m (below_step (by repeat (first | (with_reducible first | exact HB.out | apply bA | apply bN | apply bD) | exact HB.out)) hb); have n3_ := A0m (hbox); have n4_ := A0m ((by rw [hg]; exact (by first | exact HK.out.1 | exact (show Kept w _ (fun k_ => P0_1_ k_) from by repeat (first | (with_reducible first | exact HK.out | apply Kept.alloc | apply Kept.drewN | apply Kept.drew) | exact HK.out)).1) : w.heap.size ≤ gb446)); have n5_ := A0m ((by rw [hg]; exact (below_size (by repeat (first | (with_reducible first | exact HB.out | apply bA | apply bN | apply bD) | exact HB.out))) : w0.heap.size ≤ gb446)); clear HO0_1; clear HK; clear HB; have HO0_1 := n0_; have HK := n1_; have HB := n2_; have BK446 := n3_; have GW446 := n4_; have GE446 := n5_; clear n0_ n1_ n2_ n3_ n4_ n5_; clear hb hbox hg) | ((with_reducible refine gate_dst (N := 2) rfl ?_); refine box_event ?hg (N := 2) ?hd (cs := #[.bool false, .slice none 0 0]) (t := 79) ?hr ?_; (case hd => rfl); (case hg => rfl); (case hr => first | (go_simp; done) | (go_simp; rfl)); intro gb447 hg w5 hbox hb; have n0_ := A0m (Kd.R_below (by (with_reducible repeat (first | apply rA | apply rN | apply rD)); exact HO0_1.out) hb); have n1_ := A0m (blk_below (g := gb446) (o := .cells #[.bool a0_0, .slice Ao3 l0_1.length co3] 79 (0, 0)) (by (with_reducible repeat (first | refine kN ?_ _ | refine kD ?_ | refine kA ?_ _)); exact BK446.out) hb); have n2_ := A0m (Kept.below (S := (fun k_ => P0_1_ k_)) (by repeat (first | (with_reducible first | exact HK.out | apply Kept.alloc | apply Kept.drewN | apply Kept.drew | refine Kept.setCell ?_ (.inr GW446.out) _) | exact HK.out)) hb); have n3_ := A0m (below_step (by repeat (first | (with_reducible first | exact HB.out | apply bA | apply bN | apply bD | refine bS ?_ GE446.out) | exact HB.out)) hb); have n4_ := A0m (hbox); have n5_ := A0m ((by rw [hg]; exact (by first | exact HK.out.1 | exact (show Kept w _ (fun k_ => P0_1_ k_) from by repeat (first | (with_reducible first | exact HK.out | apply Kept.alloc | apply Kept.drewN | apply Kept.drew | refine Kept.setCell ?_ (.inr GW446.out) _) | exact HK.out)).1) : w.heap.size ≤ gb447)); have n6_ := A0m ((by rw [hg]; exact (below_size (by repeat (first | (with_reducible first | exact HB.out | apply bA | apply bN | apply bD | refine bS ?_ GE446.out) | exact HB.out))) : w0.heap.size ≤ gb447)); have n7_ := A0m ((by rw [hg]; exact Nat.ne_of_lt (blk_lt (g := gb446) (o := .cells #[.bool a0_0, .slice Ao3 l0_1.length co3] 79 (0, 0)) (by (with_reducible repeat (first | refine kN ?_ _ | refine kD ?_ | refine kA ?_ _)); exact BK446.out)) : gb446 ≠ gb447)); have n8_ := A0m ((by rw [hg]; exact Nat.ne_of_gt (blk_lt (g := gb446) (o := .cells #[.bool a0_0, .slice Ao3 l0_1.length co3] 79 (0, 0)) (by (with_reducible repeat (first | refine kN ?_ _ | refine kD ?_ | refine kA ?_ _)); exact BK446.out)) : gb447 ≠ gb446)); clear HO0_1; clear BK446; clear HK; clear HB; have HO0_1 := n0_; have BK446 := n1_; have HK := n2_; have HB := n3_; have BK447 := n4_; have GW447 := n5_; have GE447 := n6_; have NB446_447 := n7_; have NB447_446 := n8_; clear n0_ n1_ n2_ n3_ n4_ n5_ n6_ n7_ n8_; clear hb hbox hg; have hnb6 := NB446_447.out; have hnc6 := NB447_446.out; have hcz7_0 : w5.cell? ⟨gb446, 0, none⟩ = some (.bool a0_0) := (kC BK446.out 0).trans rfl; have hcz7_1 : w5.cell? ⟨gb446, 1, none⟩ = some (.slice Ao3 l0_1.length co3) := (kC BK446.out 1).trans rfl; have hfz7_0 := kF BK446.out 0; have hfz7_1 := kF BK446.out 1; have hcz8_0 : w5.cell? ⟨gb447, 0, none⟩ = some (.bool false) := (kC BK447.out 0).trans rfl; have hcz8_1 : w5.cell? ⟨gb447, 1, none⟩ = some (.slice none 0 0) := (kC BK447.out 1).trans rfl; have hfz8_0 := kF BK447.out 0; have hfz8_1 := kF BK447.out 1))
  refine bodyPost_ret (results_cell_row rfl _ _ gb447 79 #[.bool a0_0, .slice Ao3 l0_1.length co3] (0, 0) _ rfl (by (with_reducible repeat (first | refine kN ?_ _ | refine kD ?_ | refine kA ?_ _)); refine blk_put (cs := #[.bool a0_0, .slice none 0 0]) ?_ 1 _ rfl; (with_reducible repeat (first | refine kN ?_ _ | refine kD ?_ | refine kA ?_ _)); refine blk_put (cs := #[.bool false, .slice none 0 0]) ?_ 0 _ rfl; (with_reducible repeat (first | refine kN ?_ _ | refine kD ?_ | refine kA ?_ _)); exact BK447.out) Tryz.underlying79 rfl (by kernel_rfl)) rfl ?_
  exact ⟨_, by first | rfl | (simp [errW_none, errW_some] <;> rfl) | (simp [*, errW_none, errW_some] <;> rfl), by (with_reducible repeat (first | apply rA | apply rN | apply rD)); exact Kd.R_mono (Kd.R_far (p := ⟨gb447, 1, none⟩) (Kd.R_far (p := ⟨gb447, 0, none⟩) (Kd.R_types HO0_1.out BK447.out (by decide)) (fun _ hk => hk.2) (.bool a0_0)) (fun _ hk => hk.2) (.slice Ao3 l0_1.length co3)) (fun _ hk => hk.1), by repeat (first | (with_reducible first | exact HB.out | apply bA | apply bN | apply bD | refine bS ?_ GE446.out | refine bS ?_ GE447.out) | exact HB.out), by repeat (first | (with_reducible first | exact HK.out | apply Kept.alloc | apply Kept.drewN | apply Kept.drew | refine Kept.setCell ?_ (.inr GW446.out) _ | refine Kept.setCell ?_ (.inr GW447.out) _) | exact HK.out)⟩
 ·rw [if_neg c2] at H
  have c2b0 : ((l0_1.length : Int) == 0) = false := beq_eq_false_iff_ne.mpr c2
  have c2b1 : ((l0_1.length : Int) != 0) = true := bne_iff_ne.mpr c2
  have c2b2 : ¬ (l0_1 = []) := fun h_ => c2 (by rw [h_]; rfl)
  simp only [Option.some.injEq, Prod.mk.injEq] at H
  obtain ⟨rfl, rfl⟩ := H
  obtain ⟨Ao9, co9, eo9⟩ := Kd.R_slice HO0_1.out
  subst eo9
  go_enter Tryz.func113, Tryz.ntmps113
  go_wp2_with (first | ((with_reducible refine gate_dst (N := 1) rfl ?_); refine box_event ?hg (N := 1) ?hd (cs := #[.bool a0_0, .slice Ao9 l0_1.length co9]) (t := 79) ?hr ?_; (case hd => rfl); (case hg => rfl); (case hr => first | (go_simp; done) | (go_simp; rfl)); intro gb446 hg w10 hbox hb; have n0_ := A0m (Kd.R_below (by (with_reducible repeat (first | apply rA | apply rN | apply rD)); exact HO0_1.out) hb); have n1_ := A0m (Kept.below (S := (fun k_ => P0_1_ k_)) (by repeat (first | (with_reducible first | exact HK.out | apply Kept.alloc | apply Kept.drewN | apply Kept.drew) | exact HK.out)) hb); have n2_ := A0m (below_step (by repeat (first | (with_reducible first | exact HB.out | apply bA | apply bN | apply bD) | exact HB.out)) hb); have n3_ := A0m (hbox); have n4_ := A0m ((by rw [hg]; exact (by first | exact HK.out.1 | exact (show Kept w _ (fun k_ => P0_1_ k_) from by repeat (first | (with_reducible first | exact HK.out | apply Kept.alloc | apply Kept.drewN | apply Kept.drew) | exact HK.out)).1) : w.heap.size ≤ gb446)); have n5_ := A0m ((by rw [hg]; exact (below_size (by repeat (first | (with_reducible first | exact HB.out | apply bA | apply bN | apply bD) | exact HB.out))) : w0.heap.size ≤ gb446)); clear HO0_1; clear HK; clear HB; have HO0_1 := n0_; have HK := n1_; have HB := n2_; have BK446 := n3_; have GW446 := n4_; have GE446 := n5_; clear n0_ n1_ n2_ n3_ n4_ n5_; clear hb hbox hg) | ((with_reducible refine gate_dst (N := 2) rfl ?_); refine box_event ?hg (N := 2) ?hd (cs := #[.bool false, .slice none 0 0]) (t := 79) ?hr ?_; (case hd => rfl); (case hg => rfl); (case hr => first | (go_simp; done) | (go_simp; rfl)); intro gb447 hg w11 hbox hb; have n0_ := A0m (Kd.R_below (by (with_reducible repeat (first | apply rA | apply rN | apply rD)); exact HO0_1.out) hb); have n1_ := A0m (blk_below (g := gb446) (o := .cells #[.bool a0_0, .slice Ao9 l0_1.length co9] 79 (0, 0)) (by (with_reducible repeat (first | refine kN ?_ _ | refine kD ?_ | refine kA ?_ _)); exact BK446.out) hb); have n2_ := A0m (Kept.below (S := (fun k_ => P0_1_ k_)) (by repeat (first | (with_reducible first | exact HK.out | apply Kept.alloc | apply Kept.drewN | apply Kept.drew | refine Kept.setCell ?_ (.inr GW446.out) _) | exact HK.out)) hb); have n3_ := A0m (below_step (by repeat (first | (with_reducible first | exact HB.out | apply bA | apply bN | apply bD | refine bS ?_ GE446.out) | exact HB.out)) hb); have n4_ := A0m (hbox); have n5_ := A0m ((by rw [hg]; exact (by first | exact HK.out.1 | exact (show Kept w _ (fun k_ => P0_1_ k_) from by repeat (first | (with_reducible first | exact HK.out | apply Kept.alloc | apply Kept.drewN | apply Kept.drew | refine Kept.setCell ?_ (.inr GW446.out) _) | exact HK.out)).1) : w.heap.size ≤ gb447)); have n6_ := A0m ((by rw [hg]; exact (below_size (by repeat (first | (with_reducible first | exact HB.out | apply bA | apply bN | apply bD | refine bS ?_ GE446.out) | exact HB.out))) : w0.heap.size ≤ gb447)); have n7_ := A0m ((by rw [hg]; exact Nat.ne_of_lt (blk_lt (g := gb446) (o := .cells #[.bool a0_0, .slice Ao9 l0_1.length co9] 79 (0, 0)) (by (with_reducible repeat (first | refine kN ?_ _ | refine kD ?_ | refine kA ?_ _)); exact BK446.out)) : gb446 ≠ gb447)); have n8_ := A0m ((by rw [hg]; exact Nat.ne_of_gt (blk_lt (g := gb446) (o := .cells #[.bool a0_0, .slice Ao9 l0_1.length co9] 79 (0, 0)) (by (with_reducible repeat (first | refine kN ?_ _ | refine kD ?_ | refine kA ?_ _)); exact BK446.out)) : gb447 ≠ gb446)); clear HO0_1; clear BK446; clear HK; clear HB; have HO0_1 := n0_; have BK446 := n1_; have HK := n2_; have HB := n3_; have BK447 := n4_; have GW447 := n5_; have GE447 := n6_; have NB446_447 := n7_; have NB447_446 := n8_; clear n0_ n1_ n2_ n3_ n4_ n5_ n6_ n7_ n8_; clear hb hbox hg; have hnb12 := NB446_447.out; have hnc12 := NB447_446.out; have hcz13_0 : w11.cell? ⟨gb446, 0, none⟩ = some (.bool a0_0) := (kC BK446.out 0).trans rfl; have hcz13_1 : w11.cell? ⟨gb446, 1, none⟩ = some (.slice Ao9 l0_1.length co9) := (kC BK446.out 1).trans rfl; have hfz13_0 := kF BK446.out 0; have hfz13_1 := kF BK446.out 1; have hcz14_0 : w11.cell? ⟨gb447, 0, none⟩ = some (.bool false) := (kC BK447.out 0).trans rfl; have hcz14_1 : w11.cell? ⟨gb447, 1, none⟩ = some (.slice none 0 0) := (kC BK447.out 1).trans rfl; have hfz14_0 := kF BK447.out 0; have hfz14_1 := kF BK447.out 1))
  refine bodyPost_ret (results_cell_row rfl _ _ gb447 79 #[.bool (!a0_0), .slice Ao9 l0_1.length co9] (0, 0) _ rfl (by (with_reducible repeat (first | refine kN ?_ _ | refine kD ?_ | refine kA ?_ _)); refine blk_put (cs := #[.bool (!a0_0), .slice none 0 0]) ?_ 1 _ rfl; (with_reducible repeat (first | refine kN ?_ _ | refine kD ?_ | refine kA ?_ _)); refine blk_put (cs := #[.bool false, .slice none 0 0]) ?_ 0 _ rfl; (with_reducible repeat (first | refine kN ?_ _ | refine kD ?_ | refine kA ?_ _)); exact BK447.out) Tryz.underlying79 rfl (by kernel_rfl)) rfl ?_
  exact ⟨_, by first | rfl | (simp [errW_none, errW_some] <;> rfl) | (simp [*, errW_none, errW_some] <;> rfl), by (with_reducible repeat (first | apply rA | apply rN | apply rD)); exact Kd.R_mono (Kd.R_far (p := ⟨gb447, 1, none⟩) (Kd.R_far (p := ⟨gb447, 0, none⟩) (Kd.R_types HO0_1.out BK447.out (by decide)) (fun _ hk => hk.2) (.bool (!a0_0))) (fun _ hk => hk.2) (.slice Ao9 l0_1.length co9)) (fun _ hk => hk.1), by repeat (first | (with_reducible first | exact HB.out | apply bA | apply bN | apply bD | refine bS ?_ GE446.out | refine bS ?_ GE447.out) | exact HB.out), by repeat (first | (with_reducible first | exact HK.out | apply Kept.alloc | apply Kept.drewN | apply Kept.drew | refine Kept.setCell ?_ (.inr GW446.out) _ | refine Kept.setCell ?_ (.inr GW447.out) _) | exact HK.out)⟩

/-! ### octroiref01_Sub: function 65 -/
def octroiref01_Sub.j0 : Nat → Int → Int → Bool → Option (Int × Int)
 | 0, _, _, _ => none
 | k + 1, x0, x1, x15 => if x15 = true then (some (0, 2)) else ((octroiref01_Of.f k x0).bind fun bt450 => ((octroiref01_Of.f k x1).bind fun bt454 => ((octroiref01_Turn.f bt454.1 bt454.2).bind fun bt458 => ((octroiref01_Add.f k bt450.1 bt450.2 bt458.1 bt458.2).bind fun bt462 => ((octroiref01_Int.f k bt462.1 bt462.2).bind fun bt466 => (if bt466.2 = true then (some (bt466.1, 0)) else (some (0, 3))))))))
def octroiref01_Sub.f (k : Nat) (a0 a1 : Int) : Option (Int × Int) := (octroiref01_May.f a0).bind fun t448 => (if t448 = true then ((octroiref01_May.f a1).bind fun t449 => (octroiref01_Sub.j0 k a0 a1 (!t449))) else (octroiref01_Sub.j0 k a0 a1 true))
set_option maxHeartbeats 8000000 in
set_option maxRecDepth 100000 in
theorem octroiref01_Sub.calls (k : Nat) (a0 a1 r1 r2 : Int) (w : World) (h : octroiref01_Sub.f k a0 a1 = some (r1, r2)) :
  Calls Tryz.prog 65 #[.int .i64 a0, .int .i64 a1] w fun e w' => e = .returned (.tuple #[.int .i64 r1, .int .i64 r2]) ∧ Below w.heap.size w w' := by
 have HB := A0m (Below.refl w.heap.size w)
 have H : ((octroiref01_May.f a0).bind fun t448 => (if t448 = true then ((octroiref01_May.f a1).bind fun t449 => (octroiref01_Sub.j0 k a0 a1 (!t449))) else (octroiref01_Sub.j0 k a0 a1 true))) = some (r1, r2) := h
 clear h
 have HC3 := A0m H
 clear H
 go_enter Tryz.func65, Tryz.ntmps65
 go_upto_region 1 with (fail)
 go_cut [15] (fun v15 wc => ∃ (kq : Nat) (x15_2 : Bool), v15 = .bool x15_2 ∧ Aside0 (octroiref01_Sub.j0 kq a0 a1 x15_2 = some (r1, r2)) ∧ Aside0 (kq ≤ k) ∧ Aside0 (Below w.heap.size w wc))
 case first =>
  have H := HC3.out
  clear HC3
  replace H := Option.bind_eq_some_iff.mp H
  obtain ⟨t448, A40, H⟩ := H
  replace H : (if t448 = true then ((octroiref01_May.f a1).bind fun t449 => (octroiref01_Sub.j0 k a0 a1 (!t449))) else (octroiref01_Sub.j0 k a0 a1 true)) = some (r1, r2) := H
  have A4 := A0m A40
  clear A40
  by_cases c5 : t448 = true
  ·subst c5
   have H1 : ((octroiref01_May.f a1).bind fun t449 => (octroiref01_Sub.j0 k a0 a1 (!t449))) = some (r1, r2) := by rw [if_pos rfl] at H; exact H
   clear H
   have H := H1
   clear H1
   replace H := Option.bind_eq_some_iff.mp H
   obtain ⟨t449, A60, H⟩ := H
   replace H : (octroiref01_Sub.j0 k a0 a1 (!t449)) = some (r1, r2) := H
   have A6 := A0m A60
   clear A60
   have H' := A0m H
   clear H
   go_wp2_with (first | ((with_reducible refine gate_callee (f := 32) rfl ?_); refine goesL_ (some 9) rfl rfl Tryz.func32 (by kernel_rfl) rfl #[.int .i64 a0] rfl (by (try simp only [List.map_toArray, List.map_cons, List.map_nil]); first | done | rfl | (simp only [List.length_drop, List.length_take]; rfl)) ?_; (with_reducible refine (octroiref01_May.calls a0 true _ A4.out).mono ?_); rintro e w' ⟨rfl, ⟨nd, rfl⟩⟩; refine ⟨_, rfl, ?_⟩) | (go_at_call 32; (with_reducible refine (octroiref01_May.calls a1 t449 _ A6.out).mono ?_); rintro e w' ⟨rfl, ⟨nd, rfl⟩⟩))
   go_meet
   case rel => exact ⟨_, (!t449), (by first | rfl | (simp; done) | (simp [*]; done)), H', ⟨by first | omega | exact Nat.le_refl _⟩, ⟨by repeat (first | (with_reducible first | exact HB.out | apply bA | apply bN | apply bD) | exact HB.out)⟩⟩
  ·replace c5 := Bool.eq_false_iff.mpr c5
   subst c5
   have H1 : (octroiref01_Sub.j0 k a0 a1 true) = some (r1, r2) := by rw [if_neg (show ¬ (false = true) by decide)] at H; exact H
   clear H
   have H := H1
   clear H1
   have H' := A0m H
   clear H
   go_wp2_with (first | ((with_reducible refine gate_callee (f := 32) rfl ?_); refine goesL_ (some 9) rfl rfl Tryz.func32 (by kernel_rfl) rfl #[.int .i64 a0] rfl (by (try simp only [List.map_toArray, List.map_cons, List.map_nil]); first | done | rfl | (simp only [List.length_drop, List.length_take]; rfl)) ?_; (with_reducible refine (octroiref01_May.calls a0 false _ A4.out).mono ?_); rintro e w' ⟨rfl, ⟨nd, rfl⟩⟩; refine ⟨_, rfl, ?_⟩))
   go_meet
   case rel => exact ⟨_, (true), (by first | rfl | (simp; done) | (simp [*]; done)), H', ⟨by first | omega | exact Nat.le_refl _⟩, ⟨by repeat (first | (with_reducible first | exact HB.out | apply bA | apply bN | apply bD) | exact HB.out)⟩⟩
 case rest =>
  clear HC3
  try clear p2
  try clear c3
  try clear c5
  try clear c6
  obtain ⟨kq, x15_2, rfl, HA, HJ2, HB⟩ := hcut
  cases kq with
  | zero => exact absurd HA.out (by simp [octroiref01_Sub.j0])
  | succ kj2 =>
   have H := HA.out
   clear HA
   simp only [octroiref01_Sub.j0] at H
   by_cases c7 : x15_2 = true
   ·subst c7
    have H1 : (some (0, 2)) = some (r1, r2) := by rw [if_pos rfl] at H; exact H
    clear H
    have H := H1
    clear H1
    simp only [Option.some.injEq, Prod.mk.injEq] at H
    obtain ⟨rfl, rfl⟩ := H
    go_wp2
    go_ret2
    exact ⟨by first | rfl | (simp [errW_none, errW_some] <;> rfl) | (simp [*, errW_none, errW_some] <;> rfl), by repeat (first | (with_reducible first | exact HB.out | apply bA | apply bN | apply bD) | exact HB.out)⟩
   ·replace c7 := Bool.eq_false_iff.mpr c7
    subst c7
    have H1 : ((octroiref01_Of.f kj2 a0).bind fun bt450 => ((octroiref01_Of.f kj2 a1).bind fun bt454 => ((octroiref01_Turn.f bt454.1 bt454.2).bind fun bt458 => ((octroiref01_Add.f kj2 bt450.1 bt450.2 bt458.1 bt458.2).bind fun bt462 => ((octroiref01_Int.f kj2 bt462.1 bt462.2).bind fun bt466 => (if bt466.2 = true then (some (bt466.1, 0)) else (some (0, 3)))))))) = some (r1, r2) := by rw [if_neg (show ¬ (false = true) by decide)] at H; exact H
    clear H
    have H := H1
    clear H1
    replace H := Option.bind_eq_some_iff.mp H
    obtain ⟨⟨t450, t451⟩, A80, H⟩ := H
    replace H : ((octroiref01_Of.f kj2 a1).bind fun bt454 => ((octroiref01_Turn.f bt454.1 bt454.2).bind fun bt458 => ((octroiref01_Add.f kj2 t450 t451 bt458.1 bt458.2).bind fun bt462 => ((octroiref01_Int.f kj2 bt462.1 bt462.2).bind fun bt466 => (if bt466.2 = true then (some (bt466.1, 0)) else (some (0, 3))))))) = some (r1, r2) := H
    have A8 := A0m A80
    clear A80
    replace H := Option.bind_eq_some_iff.mp H
    obtain ⟨⟨t454, t455⟩, A90, H⟩ := H
    replace H : ((octroiref01_Turn.f t454 t455).bind fun bt458 => ((octroiref01_Add.f kj2 t450 t451 bt458.1 bt458.2).bind fun bt462 => ((octroiref01_Int.f kj2 bt462.1 bt462.2).bind fun bt466 => (if bt466.2 = true then (some (bt466.1, 0)) else (some (0, 3)))))) = some (r1, r2) := H
    have A9 := A0m A90
    clear A90
    replace H := Option.bind_eq_some_iff.mp H
    obtain ⟨⟨t458, t459⟩, A100, H⟩ := H
    replace H : ((octroiref01_Add.f kj2 t450 t451 t458 t459).bind fun bt462 => ((octroiref01_Int.f kj2 bt462.1 bt462.2).bind fun bt466 => (if bt466.2 = true then (some (bt466.1, 0)) else (some (0, 3))))) = some (r1, r2) := H
    have A10 := A0m A100
    clear A100
    replace H := Option.bind_eq_some_iff.mp H
    obtain ⟨⟨t462, t463⟩, A110, H⟩ := H
    replace H : ((octroiref01_Int.f kj2 t462 t463).bind fun bt466 => (if bt466.2 = true then (some (bt466.1, 0)) else (some (0, 3)))) = some (r1, r2) := H
    have A11 := A0m A110
    clear A110
    replace H := Option.bind_eq_some_iff.mp H
    obtain ⟨⟨t466, t467⟩, A120, H⟩ := H
    replace H : (if t467 = true then (some (t466, 0)) else (some (0, 3))) = some (r1, r2) := H
    have A12 := A0m A120
    clear A120
    by_cases c13 : t467 = true
    ·subst c13
     have H1 : (some (t466, 0)) = some (r1, r2) := by rw [if_pos rfl] at H; exact H
     clear H
     have H := H1
     clear H1
     simp only [Option.some.injEq, Prod.mk.injEq] at H
     obtain ⟨rfl, rfl⟩ := H
     go_wp2_with (first | ((with_reducible refine gate_callee (f := 34) rfl ?_); refine goesL_ (some 18) rfl rfl Tryz.func34 (by kernel_rfl) rfl #[.int .i64 a0] rfl (by (try simp only [List.map_toArray, List.map_cons, List.map_nil]); first | done | rfl | (simp only [List.length_drop, List.length_take]; rfl)) ?_; (with_reducible refine (octroiref01_Of.calls kj2 a0 t450 t451 _ A8.out).mono ?_); rintro e w14 ⟨v452, rfl, ho0, hb⟩; refine ⟨_, rfl, ?_⟩; have n0_ := A0m (Kd.R_lower ho0 (below_size (by repeat (first | (with_reducible first | exact HB.out | apply bA | apply bN | apply bD) | exact HB.out)))); have n1_ := A0m (below_step (by repeat (first | (with_reducible first | exact HB.out | apply bA | apply bN | apply bD) | exact HB.out)) hb); clear HB; have HO453 := n0_; have HB := n1_; clear n0_ n1_; (try clear hb); (try clear hb2); (try clear hk); (try clear hi); (try clear ho0)) | ((with_reducible refine gate_callee (f := 34) rfl ?_); refine goesL_ (some 20) rfl rfl Tryz.func34 (by kernel_rfl) rfl #[.int .i64 a1] rfl (by (try simp only [List.map_toArray, List.map_cons, List.map_nil]); first | done | rfl | (simp only [List.length_drop, List.length_take]; rfl)) ?_; (with_reducible refine (octroiref01_Of.calls kj2 a1 t454 t455 _ A9.out).mono ?_); rintro e w15 ⟨v456, rfl, ho0, hb⟩; refine ⟨_, rfl, ?_⟩; have n0_ := A0m (Kd.R_elder' (by (with_reducible repeat (first | apply rA | apply rN | apply rD)); exact HO453.out) (Kd.R_base ho0) hb); have n1_ := A0m (Kd.R_lower (Kd.R_new' ho0 (Kd.R_lt (by (with_reducible repeat (first | apply rA | apply rN | apply rD)); exact HO453.out))) (below_size (by repeat (first | (with_reducible first | exact HB.out | apply bA | apply bN | apply bD) | exact HB.out)))); have n2_ := A0m (below_step (by repeat (first | (with_reducible first | exact HB.out | apply bA | apply bN | apply bD) | exact HB.out)) hb); clear HO453; clear HB; have HO453 := n0_; have HO457 := n1_; have HB := n2_; clear n0_ n1_ n2_; (try clear hb); (try clear hb2); (try clear hk); (try clear hi); (try clear ho0); obtain ⟨Ao16, co16, eo16⟩ := Kd.R_slice HO457.out; subst eo16) | ((with_reducible refine gate_callee (f := 113) rfl ?_); refine goesL_ (some 21) rfl rfl Tryz.func113 (by kernel_rfl) rfl #[.agg #[.bool t454, .slice Ao16 t455.length co16]] rfl (by (try simp only [List.map_toArray, List.map_cons, List.map_nil]); first | done | rfl | (simp only [List.length_drop, List.length_take]; rfl)) ?_; (with_reducible refine (octroiref01_Turn.calls t454 (fun k_ => some k_ = (.slice Ao16 t455.length co16 : Value).ownBlock) (.slice Ao16 t455.length co16) t455 t458 t459 w _ ?side1 ?side2 A10.out).mono ?_); (case side1 => repeat (first | (with_reducible first | exact HB.out | apply bA | apply bN | apply bD) | exact HB.out)); (case side2 => exact Kd.R_tight rfl HO457.out); rintro e w17 ⟨v460, rfl, ho0, hb, hkp⟩; refine ⟨_, rfl, ?_⟩; have n0_ := A0m (Kd.R_mono (ok' := fun k_ => some k_ ≠ (v460 : Value).ownBlock) (Kd.R_keptB (HO453.out) hkp (fun k_ hk_ hs_ => (hk_.2) hs_)) (fun k_ hk_ => fun e_ => Or.elim (ho0.1 k_ e_.symm) (fun hs_ => hk_.2.1 hs_) (fun hn_ => Nat.not_le.2 hk_.2.2 hn_))); have n1_ := A0m (Kd.R_mono (ok' := fun k_ => some k_ ≠ (v452 : Value).ownBlock) ho0 (fun k_ hk_ => Or.elim hk_ (fun hs_ => fun e_ => (((HO453.out).1 k_ e_.symm).2) hs_) (fun hn_ => (Kd.fresh' (Kd.R_lt (by (with_reducible repeat (first | apply rA | apply rN | apply rD)); exact HO453.out)) k_ hn_)))); have n2_ := A0m (hb); clear HO453; clear HB; clear HO457; have HO453 := n0_; have HO461 := n1_; have HB := n2_; clear n0_ n1_ n2_; (try clear hb); (try clear hkp); (try clear ho0); obtain ⟨Ao18, co18, eo18⟩ := Kd.R_slice HO453.out; subst eo18; obtain ⟨Ao19, co19, eo19⟩ := Kd.R_slice HO461.out; subst eo19) | ((with_reducible refine gate_callee (f := 33) rfl ?_); refine goesL_ (some 22) rfl rfl Tryz.func33 (by kernel_rfl) rfl #[.agg #[.bool t450, .slice Ao18 t451.length co18], .agg #[.bool t458, .slice Ao19 t459.length co19]] rfl (by (try simp only [List.map_toArray, List.map_cons, List.map_nil]); first | done | rfl | (simp only [List.length_drop, List.length_take]; rfl)) ?_; (with_reducible refine (octroiref01_Add.calls kj2 t450 _ _ t451 t458 _ _ t459 t462 t463 _ ?side1 ?side2 ?side3 ?side4 A11.out).mono ?_); (case side1 => repeat (first | exact (Kd.R_reads' HO453.out).2.2 | (with_reducible refine Kd.C_alloc ?_ _) | (with_reducible refine Kd.C_drewN ?_ _) | (with_reducible refine Kd.C_drew ?_))); (case side2 => exact (Kd.R_reads' HO453.out).2.1); (case side3 => repeat (first | exact (Kd.R_reads' HO461.out).2.2 | (with_reducible refine Kd.C_alloc ?_ _) | (with_reducible refine Kd.C_drewN ?_ _) | (with_reducible refine Kd.C_drew ?_))); (case side4 => exact (Kd.R_reads' HO461.out).2.1); rintro e w20 ⟨v464, rfl, ho0, hb⟩; refine ⟨_, rfl, ?_⟩; have n0_ := A0m (Kd.R_elder' (by (with_reducible repeat (first | apply rA | apply rN | apply rD)); exact HO453.out) (Kd.R_base ho0) hb); have n1_ := A0m (Kd.R_elder' (by (with_reducible repeat (first | apply rA | apply rN | apply rD)); exact HO461.out) (Kd.R_base ho0) hb); have n2_ := A0m (Kd.R_lower (Kd.R_new' (Kd.R_new' ho0 (Kd.R_lt (by (with_reducible repeat (first | apply rA | apply rN | apply rD)); exact HO453.out))) (Kd.R_lt (by (with_reducible repeat (first | apply rA | apply rN | apply rD)); exact HO461.out))) (below_size (by repeat (first | (with_reducible first | exact HB.out | apply bA | apply bN | apply bD) | exact HB.out)))); have n3_ := A0m (below_step (by repeat (first | (with_reducible first | exact HB.out | apply bA | apply bN | apply bD) | exact HB.out)) hb); clear HO453; clear HO461; clear HB; have HO453 := n0_; have HO461 := n1_; have HO465 := n2_; have HB := n3_; clear n0_ n1_ n2_ n3_; (try clear hb); (try clear hb2); (try clear hk); (try clear hi); (try clear ho0); obtain ⟨Ao21, co21, eo21⟩ := Kd.R_slice HO465.out; subst eo21) | ((with_reducible refine gate_callee (f := 35) rfl ?_); refine goesL_ (some 23) rfl rfl Tryz.func35 (by kernel_rfl) rfl #[.agg #[.bool t462, .slice Ao21 t463.length co21]] rfl (by (try simp only [List.map_toArray, List.map_cons, List.map_nil]); first | done | rfl | (simp only [List.length_drop, List.length_take]; rfl)) ?_; (with_reducible refine (octroiref01_Int.calls kj2 t462 _ _ t463 t466 true _ ?side1 ?side2 A12.out).mono ?_); (case side1 => repeat (first | exact (Kd.R_reads' HO465.out).2.2 | (with_reducible refine Kd.C_alloc ?_ _) | (with_reducible refine Kd.C_drewN ?_ _) | (with_reducible refine Kd.C_drew ?_))); (case side2 => exact (Kd.R_reads' HO465.out).2.1); rintro e w22 ⟨rfl, hb⟩; refine ⟨_, rfl, ?_⟩; have n0_ := A0m (Kd.R_below (by (with_reducible repeat (first | apply rA | apply rN | apply rD)); exact HO453.out) hb); have n1_ := A0m (Kd.R_below (by (with_reducible repeat (first | apply rA | apply rN | apply rD)); exact HO461.out) hb); have n2_ := A0m (Kd.R_below (by (with_reducible repeat (first | apply rA | apply rN | apply rD)); exact HO465.out) hb); have n3_ := A0m (below_step (by repeat (first | (with_reducible first | exact HB.out | apply bA | apply bN | apply bD) | exact HB.out)) hb); clear HO453; clear HO461; clear HO465; clear HB; have HO453 := n0_; have HO461 := n1_; have HO465 := n2_; have HB := n3_; clear n0_ n1_ n2_ n3_; (try clear hb); (try clear hb2); (try clear hk); (try clear hi)))
     go_ret2
     exact ⟨by first | rfl | (simp [errW_none, errW_some] <;> rfl) | (simp [*, errW_none, errW_some] <;> rfl), by repeat (first | (with_reducible first | exact HB.out | apply bA | apply bN | apply bD) | exact HB.out)⟩
    ·replace c13 := Bool.eq_false_iff.mpr c13
     subst c13
     have H1 : (some (0, 3)) = some (r1, r2) := by rw [if_neg (show ¬ (false = true) by decide)] at H; exact H
     clear H
     have H := H1
     clear H1
     simp only [Option.some.injEq, Prod.mk.injEq] at H
     obtain ⟨rfl, rfl⟩ := H
     go_wp2_with (first | ((with_reducible refine gate_callee (f := 34) rfl ?_); refine goesL_ (some 18) rfl rfl Tryz.func34 (by kernel_rfl) rfl #[.int .i64 a0] rfl (by (try simp only [List.map_toArray, List.map_cons, List.map_nil]); first | done | rfl | (simp only [List.length_drop, List.length_take]; rfl)) ?_; (with_reducible refine (octroiref01_Of.calls kj2 a0 t450 t451 _ A8.out).mono ?_); rintro e w23 ⟨v452, rfl, ho0, hb⟩; refine ⟨_, rfl, ?_⟩; have n0_ := A0m (Kd.R_lower ho0 (below_size (by repeat (first | (with_reducible first | exact HB.out | apply bA | apply bN | apply bD) | exact HB.out)))); have n1_ := A0m (below_step (by repeat (first | (with_reducible first | exact HB.out | apply bA | apply bN | apply bD) | exact HB.out)) hb); clear HB; have HO453 := n0_; have HB := n1_; clear n0_ n1_; (try clear hb); (try clear hb2); (try clear hk); (try clear hi); (try clear ho0)) | ((with_reducible refine gate_callee (f := 34) rfl ?_); refine goesL_ (some 20) rfl rfl Tryz.func34 (by kernel_rfl) rfl #[.int .i64 a1] rfl (by (try simp only [List.map_toArray, List.map_cons, List.map_nil]); first | done | rfl | (simp only [List.length_drop, List.length_take]; rfl)) ?_; (with_reducible refine (octroiref01_Of.calls kj2 a1 t454 t455 _ A9.out).mono ?_); rintro e w24 ⟨v456, rfl, ho0, hb⟩; refine ⟨_, rfl, ?_⟩; have n0_ := A0m (Kd.R_elder' (by (with_reducible repeat (first | apply rA | apply rN | apply rD)); exact HO453.out) (Kd.R_base ho0) hb); have n1_ := A0m (Kd.R_lower (Kd.R_new' ho0 (Kd.R_lt (by (with_reducible repeat (first | apply rA | apply rN | apply rD)); exact HO453.out))) (below_size (by repeat (first | (with_reducible first | exact HB.out | apply bA | apply bN | apply bD) | exact HB.out)))); have n2_ := A0m (below_step (by repeat (first | (with_reducible first | exact HB.out | apply bA | apply bN | apply bD) | exact HB.out)) hb); clear HO453; clear HB; have HO453 := n0_; have HO457 := n1_; have HB := n2_; clear n0_ n1_ n2_; (try clear hb); (try clear hb2); (try clear hk); (try clear hi); (try clear ho0); obtain ⟨Ao25, co25, eo25⟩ := Kd.R_slice HO457.out; subst eo25) | ((with_reducible refine gate_callee (f := 113) rfl ?_); refine goesL_ (some 21) rfl rfl Tryz.func113 (by kernel_rfl) rfl #[.agg #[.bool t454, .slice Ao25 t455.length co25]] rfl (by (try simp only [List.map_toArray, List.map_cons, List.map_nil]); first | done | rfl | (simp only [List.length_drop, List.length_take]; rfl)) ?_; (with_reducible refine (octroiref01_Turn.calls t454 (fun k_ => some k_ = (.slice Ao25 t455.length co25 : Value).ownBlock) (.slice Ao25 t455.length co25) t455 t458 t459 w _ ?side1 ?side2 A10.out).mono ?_); (case side1 => repeat (first | (with_reducible first | exact HB.out | apply bA | apply bN | apply bD) | exact HB.out)); (case side2 => exact Kd.R_tight rfl HO457.out); rintro e w26 ⟨v460, rfl, ho0, hb, hkp⟩; refine ⟨_, rfl, ?_⟩; have n0_ := A0m (Kd.R_mono (ok' := fun k_ => some k_ ≠ (v460 : Value).ownBlock) (Kd.R_keptB (HO453.out) hkp (fun k_ hk_ hs_ => (hk_.2) hs_)) (fun k_ hk_ => fun e_ => Or.elim (ho0.1 k_ e_.symm) (fun hs_ => hk_.2.1 hs_) (fun hn_ => Nat.not_le.2 hk_.2.2 hn_))); have n1_ := A0m (Kd.R_mono (ok' := fun k_ => some k_ ≠ (v452 : Value).ownBlock) ho0 (fun k_ hk_ => Or.elim hk_ (fun hs_ => fun e_ => (((HO453.out).1 k_ e_.symm).2) hs_) (fun hn_ => (Kd.fresh' (Kd.R_lt (by (with_reducible repeat (first | apply rA | apply rN | apply rD)); exact HO453.out)) k_ hn_)))); have n2_ := A0m (hb); clear HO453; clear HB; clear HO457; have HO453 := n0_; have HO461 := n1_; have HB := n2_; clear n0_ n1_ n2_; (try clear hb); (try clear hkp); (try clear ho0); obtain ⟨Ao27, co27, eo27⟩ := Kd.R_slice HO453.out; subst eo27; obtain ⟨Ao28, co28, eo28⟩ := Kd.R_slice HO461.out; subst eo28) | ((with_reducible refine gate_callee (f := 33) rfl ?_); refine goesL_ (some 22) rfl rfl Tryz.func33 (by kernel_rfl) rfl #[.agg #[.bool t450, .slice Ao27 t451.length co27], .agg #[.bool t458, .slice Ao28 t459.length co28]] rfl (by (try simp only [List.map_toArray, List.map_cons, List.map_nil]); first | done | rfl | (simp only [List.length_drop, List.length_take]; rfl)) ?_; (with_reducible refine (octroiref01_Add.calls kj2 t450 _ _ t451 t458 _ _ t459 t462 t463 _ ?side1 ?side2 ?side3 ?side4 A11.out).mono ?_); (case side1 => repeat (first | exact (Kd.R_reads' HO453.out).2.2 | (with_reducible refine Kd.C_alloc ?_ _) | (with_reducible refine Kd.C_drewN ?_ _) | (with_reducible refine Kd.C_drew ?_))); (case side2 => exact (Kd.R_reads' HO453.out).2.1); (case side3 => repeat (first | exact (Kd.R_reads' HO461.out).2.2 | (with_reducible refine Kd.C_alloc ?_ _) | (with_reducible refine Kd.C_drewN ?_ _) | (with_reducible refine Kd.C_drew ?_))); (case side4 => exact (Kd.R_reads' HO461.out).2.1); rintro e w29 ⟨v464, rfl, ho0, hb⟩; refine ⟨_, rfl, ?_⟩; have n0_ := A0m (Kd.R_elder' (by (with_reducible repeat (first | apply rA | apply rN | apply rD)); exact HO453.out) (Kd.R_base ho0) hb); have n1_ := A0m (Kd.R_elder' (by (with_reducible repeat (first | apply rA | apply rN | apply rD)); exact HO461.out) (Kd.R_base ho0) hb); have n2_ := A0m (Kd.R_lower (Kd.R_new' (Kd.R_new' ho0 (Kd.R_lt (by (with_reducible repeat (first | apply rA | apply rN | apply rD)); exact HO453.out))) (Kd.R_lt (by (with_reducible repeat (first | apply rA | apply rN | apply rD)); exact HO461.out))) (below_size (by repeat (first | (with_reducible first | exact HB.out | apply bA | apply bN | apply bD) | exact HB.out)))); have n3_ := A0m (below_step (by repeat (first | (with_reducible first | exact HB.out | apply bA | apply bN | apply bD) | exact HB.out)) hb); clear HO453; clear HO461; clear HB; have HO453 := n0_; have HO461 := n1_; have HO465 := n2_; have HB := n3_; clear n0_ n1_ n2_ n3_; (try clear hb); (try clear hb2); (try clear hk); (try clear hi); (try clear ho0); obtain ⟨Ao30, co30, eo30⟩ := Kd.R_slice HO465.out; subst eo30) | ((with_reducible refine gate_callee (f := 35) rfl ?_); refine goesL_ (some 23) rfl rfl Tryz.func35 (by kernel_rfl) rfl #[.agg #[.bool t462, .slice Ao30 t463.length co30]] rfl (by (try simp only [List.map_toArray, List.map_cons, List.map_nil]); first | done | rfl | (simp only [List.length_drop, List.length_take]; rfl)) ?_; (with_reducible refine (octroiref01_Int.calls kj2 t462 _ _ t463 t466 false _ ?side1 ?side2 A12.out).mono ?_); (case side1 => repeat (first | exact (Kd.R_reads' HO465.out).2.2 | (with_reducible refine Kd.C_alloc ?_ _) | (with_reducible refine Kd.C_drewN ?_ _) | (with_reducible refine Kd.C_drew ?_))); (case side2 => exact (Kd.R_reads' HO465.out).2.1); rintro e w31 ⟨rfl, hb⟩; refine ⟨_, rfl, ?_⟩; have n0_ := A0m (Kd.R_below (by (with_reducible repeat (first | apply rA | apply rN | apply rD)); exact HO453.out) hb); have n1_ := A0m (Kd.R_below (by (with_reducible repeat (first | apply rA | apply rN | apply rD)); exact HO461.out) hb); have n2_ := A0m (Kd.R_below (by (with_reducible repeat (first | apply rA | apply rN | apply rD)); exact HO465.out) hb); have n3_ := A0m (below_step (by repeat (first | (with_reducible first | exact HB.out | apply bA | apply bN | apply bD) | exact HB.out)) hb); clear HO453; clear HO461; clear HO465; clear HB; have HO453 := n0_; have HO461 := n1_; have HO465 := n2_; have HB := n3_; clear n0_ n1_ n2_ n3_; (try clear hb); (try clear hb2); (try clear hk); (try clear hi)))
     go_ret2
     exact ⟨by first | rfl | (simp [errW_none, errW_some] <;> rfl) | (simp [*, errW_none, errW_some] <;> rfl), by repeat (first | (with_reducible first | exact HB.out | apply bA | apply bN | apply bD) | exact HB.out)⟩

-- NOT PRINTED: function 29 (octroiref34_value)

/-! ### octroiref33_all: function 86 -/

end Go.Proofs.YtnaglnifpejpjaaGreatDoor.XEvalRuns
