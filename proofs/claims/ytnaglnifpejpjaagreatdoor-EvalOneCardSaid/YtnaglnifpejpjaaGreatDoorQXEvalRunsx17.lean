-- WRITTEN BY wip/xprint.py (my own wrapper round the print, with contracts of my own in it)
import Derived.Test.YtnaglnifpejpjaaGreatDoorQXEvalRunsx0
import Derived.Test.YtnaglnifpejpjaaGreatDoorQXEvalRunsx16
namespace Go.Proofs.YtnaglnifpejpjaaGreatDoor.XEvalRuns
open Go.RowKit Go.Proofs.YtnaglnifpejpjaaGreatDoorW.PrintWords Go.Proofs.YtnaglnifpejpjaaGreatDoorW.PrintLast Go.Proofs.YtnaglnifpejpjaaGreatDoorW.PrintMore
attribute [local go_sem] max2_int min2_int max_two min_two max_three min_three max_four min_four   -- for this text's walks alone
set_option linter.unusedVariables false
set_option linter.unusedSimpArgs false

/-! ### octroiref31_right: function 62 -/
mutual
def octroiref31_right.j0 : Nat → Bool → Int → Int → ByteArray → List (S70) → List (S25) → Option (Bool)
 | 0, _, _, _, _, _, _ => none
 | k + 1, x28, x475000, x475001, x475002, x475003, x475004 => if x28 = true then (some false) else (if x475000 = 1 then ((octroiref31_number.f x475001).bind fun t476 => (some t476)) else (if x475000 = 2 then ((octroiref31_BoxNumber.f x475001).bind fun t477 => (some t477)) else (if x475000 = 3 then (octroiref31_right.l0 k 0 x475000 x475001 x475002 x475003 x475004) else (octroiref31_right.l1 k 0 x475000 x475001 x475002 x475003 x475004))))
def octroiref31_right.l0 : Nat → Int → Int → Int → ByteArray → List (S70) → List (S25) → Option (Bool)
 | 0, _, _, _, _, _, _ => none
 | k + 1, x3, x475000, x475001, x475002, x475003, x475004 => if x3 < (x475003.length : Int) then (if 0 ≤ x3 then ((octroiref31_Name.f k ((rd_T70 x475003 x3).f0)).bind fun t481 => (if t481 = true then (if ((rd_T70 x475003 x3).f1) = 61 then ((octroiref31_number.f ((rd_T70 x475003 x3).f2)).bind fun t482 => (if t482 = true then (octroiref31_right.l0 k (wrap64 (x3 + 1)) x475000 x475001 x475002 x475003 x475004) else (some false))) else (if ((rd_T70 x475003 x3).f1) = 60 then ((octroiref31_number.f ((rd_T70 x475003 x3).f2)).bind fun t483 => (if t483 = true then (octroiref31_right.l0 k (wrap64 (x3 + 1)) x475000 x475001 x475002 x475003 x475004) else (some false))) else (if ((rd_T70 x475003 x3).f1) = 62 then ((octroiref31_number.f ((rd_T70 x475003 x3).f2)).bind fun t484 => (if t484 = true then (octroiref31_right.l0 k (wrap64 (x3 + 1)) x475000 x475001 x475002 x475003 x475004) else (some false))) else (some false)))) else (some false))) else (none)) else (if x475001 = 0 then ((octroiref31_Name.f k x475002).bind fun t478 => (if t478 = true then (some (decide ((x475003.length : Int) ≤ 16))) else (some false))) else (some false))
def octroiref31_right.l1 : Nat → Int → Int → Int → ByteArray → List (S70) → List (S25) → Option (Bool)
 | 0, _, _, _, _, _, _ => none
 | k + 1, x5, x475000, x475001, x475002, x475003, x475004 => if x5 < (x475004.length : Int) then (if 0 ≤ x5 then ((octroiref31_right.f k ((rd_T25 x475004 x5).f0) ((rd_T25 x475004 x5).f1) ((rd_T25 x475004 x5).f2) ((rd_T25 x475004 x5).f3) ((rd_T25 x475004 x5).f4)).bind fun t486 => (if t486 = true then (octroiref31_right.l1 k (wrap64 (x5 + 1)) x475000 x475001 x475002 x475003 x475004) else (some false))) else (none)) else (some (x475001 == 0))
def octroiref31_right.f : Nat → Int → Int → ByteArray → List (S70) → List (S25) → Option (Bool)
 | 0, _, _, _, _, _ => none
 | k + 1, a0_0, a0_1, a0_2, l0_3, l0_4 => (octroiref31_many.f k a0_0).bind fun t475 => (if (l0_4.length : Int) = t475 then (if a0_0 = 3 then (octroiref31_right.j0 k false a0_0 a0_1 a0_2 l0_3 l0_4) else (if a0_2.toList = ([] : List UInt8) then (octroiref31_right.j0 k (decide ((l0_3.length : Int) > 0)) a0_0 a0_1 a0_2 l0_3 l0_4) else (octroiref31_right.j0 k true a0_0 a0_1 a0_2 l0_3 l0_4))) else (octroiref31_right.j0 k true a0_0 a0_1 a0_2 l0_3 l0_4))
end
theorem octroiref31_right.mono_l : ∀ k, (∀ y0 y1 y2 y3 y4, LeO (octroiref31_right.f k y0 y1 y2 y3 y4) (octroiref31_right.f (k + 1) y0 y1 y2 y3 y4)) ∧ (∀ y0 y1 y2 y3 y4 y5, LeO (octroiref31_right.j0 k y0 y1 y2 y3 y4 y5) (octroiref31_right.j0 (k + 1) y0 y1 y2 y3 y4 y5)) ∧ (∀ y0 y1 y2 y3 y4 y5, LeO (octroiref31_right.l0 k y0 y1 y2 y3 y4 y5) (octroiref31_right.l0 (k + 1) y0 y1 y2 y3 y4 y5)) ∧ (∀ y0 y1 y2 y3 y4 y5, LeO (octroiref31_right.l1 k y0 y1 y2 y3 y4 y5) (octroiref31_right.l1 (k + 1) y0 y1 y2 y3 y4 y5))
 | 0 => ⟨fun _ _ _ _ _ r h => by simp [octroiref31_right.f] at h, fun _ _ _ _ _ _ r h => by simp [octroiref31_right.j0] at h, fun _ _ _ _ _ _ r h => by simp [octroiref31_right.l0] at h, fun _ _ _ _ _ _ r h => by simp [octroiref31_right.l1] at h⟩
 | k + 1 => by
  obtain ⟨ih0, ih1, ih2, ih3⟩ := octroiref31_right.mono_l k
  refine ⟨?_, ?_, ?_, ?_⟩
  ·intro y0 y1 y2 y3 y4
   unfold octroiref31_right.f
   repeat' first
   | (with_reducible exact ih0 _ _ _ _ _)
   | (with_reducible exact ih1 _ _ _ _ _ _)
   | (with_reducible exact ih2 _ _ _ _ _ _)
   | (with_reducible exact ih3 _ _ _ _ _ _)
   | (with_reducible exact octroiref31_Name.mono _ _)
   | (with_reducible exact octroiref31_many.mono _ _)
   | (with_reducible exact LeO.refl _)
   | (with_reducible exact LeO.none _)
   | (with_reducible refine LeO.ite ?_ ?_)
   | (with_reducible refine LeO.bind ?_ (fun _ => ?_))
   | exact ih0 _ _ _ _ _
   | exact ih1 _ _ _ _ _ _
   | exact ih2 _ _ _ _ _ _
   | exact ih3 _ _ _ _ _ _
   | exact octroiref31_Name.mono _ _
   | exact octroiref31_many.mono _ _
   | exact LeO.none _
   | refine LeO.ite ?_ ?_
   | refine LeO.bind ?_ (fun _ => ?_)
  ·intro y0 y1 y2 y3 y4 y5
   unfold octroiref31_right.j0
   repeat' first
   | (with_reducible exact ih0 _ _ _ _ _)
   | (with_reducible exact ih1 _ _ _ _ _ _)
   | (with_reducible exact ih2 _ _ _ _ _ _)
   | (with_reducible exact ih3 _ _ _ _ _ _)
   | (with_reducible exact octroiref31_Name.mono _ _)
   | (with_reducible exact octroiref31_many.mono _ _)
   | (with_reducible exact LeO.refl _)
   | (with_reducible exact LeO.none _)
   | (with_reducible refine LeO.ite ?_ ?_)
   | (with_reducible refine LeO.bind ?_ (fun _ => ?_))
   | exact ih0 _ _ _ _ _
   | exact ih1 _ _ _ _ _ _
   | exact ih2 _ _ _ _ _ _
   | exact ih3 _ _ _ _ _ _
   | exact octroiref31_Name.mono _ _
   | exact octroiref31_many.mono _ _
   | exact LeO.none _
   | refine LeO.ite ?_ ?_
   | refine LeO.bind ?_ (fun _ => ?_)
  ·intro y0 y1 y2 y3 y4 y5
   unfold octroiref31_right.l0
   repeat' first
   | (with_reducible exact ih0 _ _ _ _ _)
   | (with_reducible exact ih1 _ _ _ _ _ _)
   | (with_reducible exact ih2 _ _ _ _ _ _)
   | (with_reducible exact ih3 _ _ _ _ _ _)
   | (with_reducible exact octroiref31_Name.mono _ _)
   | (with_reducible exact octroiref31_many.mono _ _)
   | (with_reducible exact LeO.refl _)
   | (with_reducible exact LeO.none _)
   | (with_reducible refine LeO.ite ?_ ?_)
   | (with_reducible refine LeO.bind ?_ (fun _ => ?_))
   | exact ih0 _ _ _ _ _
   | exact ih1 _ _ _ _ _ _
   | exact ih2 _ _ _ _ _ _
   | exact ih3 _ _ _ _ _ _
   | exact octroiref31_Name.mono _ _
   | exact octroiref31_many.mono _ _
   | exact LeO.none _
   | refine LeO.ite ?_ ?_
   | refine LeO.bind ?_ (fun _ => ?_)
  ·intro y0 y1 y2 y3 y4 y5
   unfold octroiref31_right.l1
   repeat' first
   | (with_reducible exact ih0 _ _ _ _ _)
   | (with_reducible exact ih1 _ _ _ _ _ _)
   | (with_reducible exact ih2 _ _ _ _ _ _)
   | (with_reducible exact ih3 _ _ _ _ _ _)
   | (with_reducible exact octroiref31_Name.mono _ _)
   | (with_reducible exact octroiref31_many.mono _ _)
   | (with_reducible exact LeO.refl _)
   | (with_reducible exact LeO.none _)
   | (with_reducible refine LeO.ite ?_ ?_)
   | (with_reducible refine LeO.bind ?_ (fun _ => ?_))
   | exact ih0 _ _ _ _ _
   | exact ih1 _ _ _ _ _ _
   | exact ih2 _ _ _ _ _ _
   | exact ih3 _ _ _ _ _ _
   | exact octroiref31_Name.mono _ _
   | exact octroiref31_many.mono _ _
   | exact LeO.none _
   | refine LeO.ite ?_ ?_
   | refine LeO.bind ?_ (fun _ => ?_)
theorem octroiref31_right.mono : ∀ a0 a1 a2 a3 a4 k, LeO (octroiref31_right.f k a0 a1 a2 a3 a4) (octroiref31_right.f (k + 1) a0 a1 a2 a3 a4) := by
 intro a0 a1 a2 a3 a4 k
 obtain ⟨ih0, ih1, ih2, ih3⟩ := octroiref31_right.mono_l k
 exact ih0 a0 a1 a2 a3 a4
set_option maxHeartbeats 8000000 in
set_option maxRecDepth 100000 in
theorem octroiref31_right.calls (k : Nat) : ∀ (a0_0 a0_1 : Int) (a0_2 : ByteArray) (A0_3 : Option Addr) (c0_3 : Nat) (l0_3 : List (S70)) (A0_4 : Option Addr) (c0_4 : Nat) (l0_4 : List (S25)) (r : Bool) (w : World) (hr0_3 : Kd.C k70 w A0_3 l0_3.length l0_3) (hc0_3 : l0_3.length ≤ c0_3) (hr0_4 : Kd.C k25 w A0_4 l0_4.length l0_4) (hc0_4 : l0_4.length ≤ c0_4) (h : octroiref31_right.f k a0_0 a0_1 a0_2 l0_3 l0_4 = some r),
  Calls Tryz.prog 62 #[.agg #[.int .i64 a0_0, .int .i64 a0_1, .string a0_2, .slice A0_3 l0_3.length c0_3, .slice A0_4 l0_4.length c0_4]] w fun e w' => e = .returned (.bool r) ∧ Below w.heap.size w w' := by
 induction k using Nat.strongRecOn with
 | _ k ih =>
 intro a0_0 a0_1 a0_2 A0_3 c0_3 l0_3 A0_4 c0_4 l0_4 r w hr0_3 hc0_3 hr0_4 hc0_4 h
 cases k with
 | zero => exact absurd h (by simp [octroiref31_right.f])
 | succ k =>
 simp only [octroiref31_right.f] at h
 have hu25 := Tryz.underlying25
 have hu70 := Tryz.underlying70
 have HR0_3 := A0m hr0_3
 have HC0_3 := A0m hc0_3
 clear hr0_3 hc0_3
 have HR0_4 := A0m hr0_4
 have HC0_4 := A0m hc0_4
 clear hr0_4 hc0_4
 have HB := A0m (Below.refl w.heap.size w)
 have H : ((octroiref31_many.f k a0_0).bind fun t475 => (if (l0_4.length : Int) = t475 then (if a0_0 = 3 then (octroiref31_right.j0 k false a0_0 a0_1 a0_2 l0_3 l0_4) else (if a0_2.toList = ([] : List UInt8) then (octroiref31_right.j0 k (decide ((l0_3.length : Int) > 0)) a0_0 a0_1 a0_2 l0_3 l0_4) else (octroiref31_right.j0 k true a0_0 a0_1 a0_2 l0_3 l0_4))) else (octroiref31_right.j0 k true a0_0 a0_1 a0_2 l0_3 l0_4))) = some r := h
 clear h
 have HC2 := A0m H
 clear H
 go_enter Tryz.func62, Tryz.ntmps62
 go_upto_region 1 with (first | ((with_reducible refine gate_dst (N := 1) rfl ?_); (try (refine gate_guard (by rfl) ?_; dsimp only)); refine box_event ?hg (N := 1) ?hd (cs := #[.int .i64 a0_0, .int .i64 a0_1, .string a0_2, .slice A0_3 l0_3.length c0_3, .slice A0_4 l0_4.length c0_4]) (t := 25) ?hr ?_; (case hd => rfl); (case hg => rfl); (case hr => first | (go_simp; done) | (go_simp; rfl)); intro gb474 hg w3 hbox hb; have n0_ := A0m (below_step (by repeat (first | (with_reducible first | exact HB.out | apply bA | apply bN | apply bD) | exact HB.out)) hb); have n1_ := A0m (hbox); have n2_ := A0m ((by rw [hg]; exact (below_size (by repeat (first | (with_reducible first | exact HB.out | apply bA | apply bN | apply bD) | exact HB.out))) : w.heap.size ≤ gb474)); have n3_ := A0m ((by rw [hg]; exact (below_size (by repeat (first | (with_reducible first | exact HB.out | apply bA | apply bN | apply bD) | exact HB.out))) : w.heap.size ≤ gb474)); clear HB; have HB := n0_; have BK474 := n1_; have GW474 := n2_; have GE474 := n3_; clear n0_ n1_ n2_ n3_; clear hb hbox hg))
 repeat (go_quiet (first | ((with_reducible refine gate_dst (N := 1) rfl ?_); (try (refine gate_guard (by rfl) ?_; dsimp only)); refine box_event ?hg (N := 1) ?hd (cs := #[.int .i64 a0_0, .int .i64 a0_1, .string a0_2, .slice A0_3 l0_3.length c0_3, .slice A0_4 l0_4.length c0_4]) (t := 25) ?hr ?_; (case hd => rfl); (case hg => rfl); (case hr => first | (go_simp; done) | (go_simp; rfl)); intro gb474 hg w3 hbox hb; have n0_ := A0m (below_step (by repeat (first | (with_reducible first | exact HB.out | apply bA | apply bN | apply bD) | exact HB.out)) hb); have n1_ := A0m (hbox); have n2_ := A0m ((by rw [hg]; exact (below_size (by repeat (first | (with_reducible first | exact HB.out | apply bA | apply bN | apply bD) | exact HB.out))) : w.heap.size ≤ gb474)); have n3_ := A0m ((by rw [hg]; exact (below_size (by repeat (first | (with_reducible first | exact HB.out | apply bA | apply bN | apply bD) | exact HB.out))) : w.heap.size ≤ gb474)); clear HB; have HB := n0_; have BK474 := n1_; have GW474 := n2_; have GE474 := n3_; clear n0_ n1_ n2_ n3_; clear hb hbox hg)); go_upto_region 1 with (first | ((with_reducible refine gate_dst (N := 1) rfl ?_); (try (refine gate_guard (by rfl) ?_; dsimp only)); refine box_event ?hg (N := 1) ?hd (cs := #[.int .i64 a0_0, .int .i64 a0_1, .string a0_2, .slice A0_3 l0_3.length c0_3, .slice A0_4 l0_4.length c0_4]) (t := 25) ?hr ?_; (case hd => rfl); (case hg => rfl); (case hr => first | (go_simp; done) | (go_simp; rfl)); intro gb474 hg w3 hbox hb; have n0_ := A0m (below_step (by repeat (first | (with_reducible first | exact HB.out | apply bA | apply bN | apply bD) | exact HB.out)) hb); have n1_ := A0m (hbox); have n2_ := A0m ((by rw [hg]; exact (below_size (by repeat (first | (with_reducible first | exact HB.out | apply bA | apply bN | apply bD) | exact HB.out))) : w.heap.size ≤ gb474)); have n3_ := A0m ((by rw [hg]; exact (below_size (by repeat (first | (with_reducible first | exact HB.out | apply bA | apply bN | apply bD) | exact HB.out))) : w.heap.size ≤ gb474)); clear HB; have HB := n0_; have BK474 := n1_; have GW474 := n2_; have GE474 := n3_; clear n0_ n1_ n2_ n3_; clear hb hbox hg)))
 (try simp only [Act.put, sT, sZ, sS])
 go_cut [28] (fun v28 wc => ∃ (kq : Nat) (x28_1 : Bool), v28 = .bool x28_1 ∧ Aside0 (octroiref31_right.j0 kq x28_1 a0_0 a0_1 a0_2 l0_3 l0_4 = some r) ∧ Aside0 (kq ≤ k) ∧ Aside0 (wc.heap[gb474]? = some (.cells #[.int .i64 a0_0, .int .i64 a0_1, .string a0_2, (.slice A0_3 l0_3.length c0_3), (.slice A0_4 l0_4.length c0_4)] 25 (0, 0))) ∧ Aside0 (Below w.heap.size w wc))
 case first =>
  have H := HC2.out
  clear HC2
  replace H := Option.bind_eq_some_iff.mp H
  obtain ⟨t475, A40, H⟩ := H
  replace H : (if (l0_4.length : Int) = t475 then (if a0_0 = 3 then (octroiref31_right.j0 k false a0_0 a0_1 a0_2 l0_3 l0_4) else (if a0_2.toList = ([] : List UInt8) then (octroiref31_right.j0 k (decide ((l0_3.length : Int) > 0)) a0_0 a0_1 a0_2 l0_3 l0_4) else (octroiref31_right.j0 k true a0_0 a0_1 a0_2 l0_3 l0_4))) else (octroiref31_right.j0 k true a0_0 a0_1 a0_2 l0_3 l0_4)) = some r := H
  have A4 := A0m A40
  clear A40
  by_cases c5 : (l0_4.length : Int) = t475
  ·rw [if_pos c5] at H
   have c5b0 : ((l0_4.length : Int) == t475) = true := beq_iff_eq.mpr c5
   have c5b1 : ((l0_4.length : Int) != t475) = false := bne_eq_false_iff_eq.mpr c5
   clear c5
   (first | rw [c5b0] | (simp only [i64_w, i32_w]; rw [c5b0]) | skip)
   by_cases c6 : a0_0 = 3
   ·rw [if_pos c6] at H
    have c6b0 : (a0_0 == 3) = true := beq_iff_eq.mpr c6
    have c6b1 : (a0_0 != 3) = false := bne_eq_false_iff_eq.mpr c6
    clear c6
    have H' := A0m H
    clear H
    have hcz7_0 : w3.cell? ⟨gb474, 0, none⟩ = some (.int .i64 a0_0) := (kC BK474.out 0).trans rfl
    have hcz7_1 : w3.cell? ⟨gb474, 1, none⟩ = some (.int .i64 a0_1) := (kC BK474.out 1).trans rfl
    have hcz7_2 : w3.cell? ⟨gb474, 2, none⟩ = some (.string a0_2) := (kC BK474.out 2).trans rfl
    have hcz7_3 : w3.cell? ⟨gb474, 3, none⟩ = some (.slice A0_3 l0_3.length c0_3) := (kC BK474.out 3).trans rfl
    have hcz7_4 : w3.cell? ⟨gb474, 4, none⟩ = some (.slice A0_4 l0_4.length c0_4) := (kC BK474.out 4).trans rfl
    have hfz7_0 := kF BK474.out 0
    have hfz7_1 := kF BK474.out 1
    have hfz7_2 := kF BK474.out 2
    have hfz7_3 := kF BK474.out 3
    have hfz7_4 := kF BK474.out 4
    go_wp2_with (first | (go_at_call 107; (with_reducible refine (octroiref31_many.calls k a0_0 t475 _ A4.out).mono ?_); rintro e w' ⟨rfl, ⟨nd, rfl⟩⟩; (try first | exact ⟨rfl, _, World.drewN_drewN _ _ _⟩ | exact ⟨rfl, _, Eq.trans (World.drewN_drewN _ _ _) (congrArg (World.drewN _) (Nat.add_assoc _ _ _))⟩)))
    repeat (go_quiet (first | (go_at_call 107; (with_reducible refine (octroiref31_many.calls k a0_0 t475 _ A4.out).mono ?_); rintro e w' ⟨rfl, ⟨nd, rfl⟩⟩; (try first | exact ⟨rfl, _, World.drewN_drewN _ _ _⟩ | exact ⟨rfl, _, Eq.trans (World.drewN_drewN _ _ _) (congrArg (World.drewN _) (Nat.add_assoc _ _ _))⟩))); try go_wp2_with (first | (go_at_call 107; (with_reducible refine (octroiref31_many.calls k a0_0 t475 _ A4.out).mono ?_); rintro e w' ⟨rfl, ⟨nd, rfl⟩⟩; (try first | exact ⟨rfl, _, World.drewN_drewN _ _ _⟩ | exact ⟨rfl, _, Eq.trans (World.drewN_drewN _ _ _) (congrArg (World.drewN _) (Nat.add_assoc _ _ _))⟩))))
    go_meet
    case rel => exact ⟨_, (false), (by first | rfl | (simp; done) | (simp [*]; done)), H', ⟨by first | omega | exact Nat.le_refl _⟩, ⟨by (with_reducible repeat (first | refine kN ?_ _ | refine kD ?_ | refine kA ?_ _)); exact BK474.out⟩, ⟨by repeat (first | (with_reducible first | exact HB.out | apply bA | apply bN | apply bD | refine bS ?_ GE474.out) | exact HB.out)⟩⟩
   ·rw [if_neg c6] at H
    have c6b0 : (a0_0 == 3) = false := beq_eq_false_iff_ne.mpr c6
    have c6b1 : (a0_0 != 3) = true := bne_iff_ne.mpr c6
    by_cases c8 : a0_2.toList = ([] : List UInt8)
    ·rw [if_pos c8] at H
     have c8b0 : (a0_2.toList == ([] : List UInt8)) = true := beq_iff_eq.mpr c8
     have c8b1 : (a0_2.toList != ([] : List UInt8)) = false := bne_eq_false_iff_eq.mpr c8
     clear c8
     have H' := A0m H
     clear H
     have hcz9_0 : w3.cell? ⟨gb474, 0, none⟩ = some (.int .i64 a0_0) := (kC BK474.out 0).trans rfl
     have hcz9_1 : w3.cell? ⟨gb474, 1, none⟩ = some (.int .i64 a0_1) := (kC BK474.out 1).trans rfl
     have hcz9_2 : w3.cell? ⟨gb474, 2, none⟩ = some (.string a0_2) := (kC BK474.out 2).trans rfl
     have hcz9_3 : w3.cell? ⟨gb474, 3, none⟩ = some (.slice A0_3 l0_3.length c0_3) := (kC BK474.out 3).trans rfl
     have hcz9_4 : w3.cell? ⟨gb474, 4, none⟩ = some (.slice A0_4 l0_4.length c0_4) := (kC BK474.out 4).trans rfl
     have hfz9_0 := kF BK474.out 0
     have hfz9_1 := kF BK474.out 1
     have hfz9_2 := kF BK474.out 2
     have hfz9_3 := kF BK474.out 3
     have hfz9_4 := kF BK474.out 4
     go_wp2_with (first | (go_at_call 107; (with_reducible refine (octroiref31_many.calls k a0_0 t475 _ A4.out).mono ?_); rintro e w' ⟨rfl, ⟨nd, rfl⟩⟩; (try first | exact ⟨rfl, _, World.drewN_drewN _ _ _⟩ | exact ⟨rfl, _, Eq.trans (World.drewN_drewN _ _ _) (congrArg (World.drewN _) (Nat.add_assoc _ _ _))⟩)))
     repeat (go_quiet (first | (go_at_call 107; (with_reducible refine (octroiref31_many.calls k a0_0 t475 _ A4.out).mono ?_); rintro e w' ⟨rfl, ⟨nd, rfl⟩⟩; (try first | exact ⟨rfl, _, World.drewN_drewN _ _ _⟩ | exact ⟨rfl, _, Eq.trans (World.drewN_drewN _ _ _) (congrArg (World.drewN _) (Nat.add_assoc _ _ _))⟩))); try go_wp2_with (first | (go_at_call 107; (with_reducible refine (octroiref31_many.calls k a0_0 t475 _ A4.out).mono ?_); rintro e w' ⟨rfl, ⟨nd, rfl⟩⟩; (try first | exact ⟨rfl, _, World.drewN_drewN _ _ _⟩ | exact ⟨rfl, _, Eq.trans (World.drewN_drewN _ _ _) (congrArg (World.drewN _) (Nat.add_assoc _ _ _))⟩))))
     go_meet
     case rel => exact ⟨_, (decide ((l0_3.length : Int) > 0)), (by first | rfl | (simp; done) | (simp [*]; done)), H', ⟨by first | omega | exact Nat.le_refl _⟩, ⟨by (with_reducible repeat (first | refine kN ?_ _ | refine kD ?_ | refine kA ?_ _)); exact BK474.out⟩, ⟨by repeat (first | (with_reducible first | exact HB.out | apply bA | apply bN | apply bD | refine bS ?_ GE474.out) | exact HB.out)⟩⟩
    ·rw [if_neg c8] at H
     have c8b0 : (a0_2.toList == ([] : List UInt8)) = false := beq_eq_false_iff_ne.mpr c8
     have c8b1 : (a0_2.toList != ([] : List UInt8)) = true := bne_iff_ne.mpr c8
     have H' := A0m H
     clear H
     have hcz10_0 : w3.cell? ⟨gb474, 0, none⟩ = some (.int .i64 a0_0) := (kC BK474.out 0).trans rfl
     have hcz10_1 : w3.cell? ⟨gb474, 1, none⟩ = some (.int .i64 a0_1) := (kC BK474.out 1).trans rfl
     have hcz10_2 : w3.cell? ⟨gb474, 2, none⟩ = some (.string a0_2) := (kC BK474.out 2).trans rfl
     have hcz10_3 : w3.cell? ⟨gb474, 3, none⟩ = some (.slice A0_3 l0_3.length c0_3) := (kC BK474.out 3).trans rfl
     have hcz10_4 : w3.cell? ⟨gb474, 4, none⟩ = some (.slice A0_4 l0_4.length c0_4) := (kC BK474.out 4).trans rfl
     have hfz10_0 := kF BK474.out 0
     have hfz10_1 := kF BK474.out 1
     have hfz10_2 := kF BK474.out 2
     have hfz10_3 := kF BK474.out 3
     have hfz10_4 := kF BK474.out 4
     go_wp2_with (first | (go_at_call 107; (with_reducible refine (octroiref31_many.calls k a0_0 t475 _ A4.out).mono ?_); rintro e w' ⟨rfl, ⟨nd, rfl⟩⟩; (try first | exact ⟨rfl, _, World.drewN_drewN _ _ _⟩ | exact ⟨rfl, _, Eq.trans (World.drewN_drewN _ _ _) (congrArg (World.drewN _) (Nat.add_assoc _ _ _))⟩)))
     repeat (go_quiet (first | (go_at_call 107; (with_reducible refine (octroiref31_many.calls k a0_0 t475 _ A4.out).mono ?_); rintro e w' ⟨rfl, ⟨nd, rfl⟩⟩; (try first | exact ⟨rfl, _, World.drewN_drewN _ _ _⟩ | exact ⟨rfl, _, Eq.trans (World.drewN_drewN _ _ _) (congrArg (World.drewN _) (Nat.add_assoc _ _ _))⟩))); try go_wp2_with (first | (go_at_call 107; (with_reducible refine (octroiref31_many.calls k a0_0 t475 _ A4.out).mono ?_); rintro e w' ⟨rfl, ⟨nd, rfl⟩⟩; (try first | exact ⟨rfl, _, World.drewN_drewN _ _ _⟩ | exact ⟨rfl, _, Eq.trans (World.drewN_drewN _ _ _) (congrArg (World.drewN _) (Nat.add_assoc _ _ _))⟩))))
     go_meet
     case rel => exact ⟨_, (true), (by first | rfl | (simp; done) | (simp [*]; done)), H', ⟨by first | omega | exact Nat.le_refl _⟩, ⟨by (with_reducible repeat (first | refine kN ?_ _ | refine kD ?_ | refine kA ?_ _)); exact BK474.out⟩, ⟨by repeat (first | (with_reducible first | exact HB.out | apply bA | apply bN | apply bD | refine bS ?_ GE474.out) | exact HB.out)⟩⟩
  ·rw [if_neg c5] at H
   have c5b0 : ((l0_4.length : Int) == t475) = false := beq_eq_false_iff_ne.mpr c5
   have c5b1 : ((l0_4.length : Int) != t475) = true := bne_iff_ne.mpr c5
   (first | rw [c5b0] | (simp only [i64_w, i32_w]; rw [c5b0]) | skip)
   have H' := A0m H
   clear H
   have hcz11_0 : w3.cell? ⟨gb474, 0, none⟩ = some (.int .i64 a0_0) := (kC BK474.out 0).trans rfl
   have hcz11_1 : w3.cell? ⟨gb474, 1, none⟩ = some (.int .i64 a0_1) := (kC BK474.out 1).trans rfl
   have hcz11_2 : w3.cell? ⟨gb474, 2, none⟩ = some (.string a0_2) := (kC BK474.out 2).trans rfl
   have hcz11_3 : w3.cell? ⟨gb474, 3, none⟩ = some (.slice A0_3 l0_3.length c0_3) := (kC BK474.out 3).trans rfl
   have hcz11_4 : w3.cell? ⟨gb474, 4, none⟩ = some (.slice A0_4 l0_4.length c0_4) := (kC BK474.out 4).trans rfl
   have hfz11_0 := kF BK474.out 0
   have hfz11_1 := kF BK474.out 1
   have hfz11_2 := kF BK474.out 2
   have hfz11_3 := kF BK474.out 3
   have hfz11_4 := kF BK474.out 4
   go_wp2_with (first | (go_at_call 107; (with_reducible refine (octroiref31_many.calls k a0_0 t475 _ A4.out).mono ?_); rintro e w' ⟨rfl, ⟨nd, rfl⟩⟩; (try first | exact ⟨rfl, _, World.drewN_drewN _ _ _⟩ | exact ⟨rfl, _, Eq.trans (World.drewN_drewN _ _ _) (congrArg (World.drewN _) (Nat.add_assoc _ _ _))⟩)))
   repeat (go_quiet (first | (go_at_call 107; (with_reducible refine (octroiref31_many.calls k a0_0 t475 _ A4.out).mono ?_); rintro e w' ⟨rfl, ⟨nd, rfl⟩⟩; (try first | exact ⟨rfl, _, World.drewN_drewN _ _ _⟩ | exact ⟨rfl, _, Eq.trans (World.drewN_drewN _ _ _) (congrArg (World.drewN _) (Nat.add_assoc _ _ _))⟩))); try go_wp2_with (first | (go_at_call 107; (with_reducible refine (octroiref31_many.calls k a0_0 t475 _ A4.out).mono ?_); rintro e w' ⟨rfl, ⟨nd, rfl⟩⟩; (try first | exact ⟨rfl, _, World.drewN_drewN _ _ _⟩ | exact ⟨rfl, _, Eq.trans (World.drewN_drewN _ _ _) (congrArg (World.drewN _) (Nat.add_assoc _ _ _))⟩))))
   go_meet
   case rel => exact ⟨_, (true), (by first | rfl | (simp; done) | (simp [*]; done)), H', ⟨by first | omega | exact Nat.le_refl _⟩, ⟨by (with_reducible repeat (first | refine kN ?_ _ | refine kD ?_ | refine kA ?_ _)); exact BK474.out⟩, ⟨by repeat (first | (with_reducible first | exact HB.out | apply bA | apply bN | apply bD | refine bS ?_ GE474.out) | exact HB.out)⟩⟩
 case rest =>
  clear HC2
  try clear p2
  try clear c5
  try clear c5b0
  try clear c5b1
  try clear c6
  try clear c6b0
  try clear c6b1
  try clear c8
  try clear c8b0
  try clear c8b1
  try clear hcz10_0
  try clear hcz10_1
  try clear hcz10_2
  try clear hcz10_3
  try clear hcz10_4
  try clear hcz11_0
  try clear hcz11_1
  try clear hcz11_2
  try clear hcz11_3
  try clear hcz11_4
  try clear hcz7_0
  try clear hcz7_1
  try clear hcz7_2
  try clear hcz7_3
  try clear hcz7_4
  try clear hcz9_0
  try clear hcz9_1
  try clear hcz9_2
  try clear hcz9_3
  try clear hcz9_4
  try clear hfz10_0
  try clear hfz10_1
  try clear hfz10_2
  try clear hfz10_3
  try clear hfz10_4
  try clear hfz11_0
  try clear hfz11_1
  try clear hfz11_2
  try clear hfz11_3
  try clear hfz11_4
  try clear hfz7_0
  try clear hfz7_1
  try clear hfz7_2
  try clear hfz7_3
  try clear hfz7_4
  try clear hfz9_0
  try clear hfz9_1
  try clear hfz9_2
  try clear hfz9_3
  try clear hfz9_4
  obtain ⟨kq, x28_1, rfl, HA, HJ1, BK474, HB⟩ := hcut
  cases kq with
  | zero => exact absurd HA.out (by simp [octroiref31_right.j0])
  | succ kj1 =>
   have H := HA.out
   clear HA
   simp only [octroiref31_right.j0] at H
   by_cases c12 : x28_1 = true
   ·subst c12
    have H1 : (some false) = some r := by rw [if_pos rfl] at H; exact H
    clear H
    have H := H1
    clear H1
    obtain rfl := Option.some.inj H
    go_wp2
    repeat (go_quiet (fail); try go_wp2)
    go_ret
    exact ⟨by first | rfl | (simp [errW_none, errW_some] <;> rfl) | (simp [*, errW_none, errW_some] <;> rfl), by repeat (first | (with_reducible first | exact HB.out | apply bA | apply bN | apply bD | refine bS ?_ GE474.out) | exact HB.out)⟩
   ·replace c12 := Bool.eq_false_iff.mpr c12
    subst c12
    have H1 : (if a0_0 = 1 then ((octroiref31_number.f a0_1).bind fun t476 => (some t476)) else (if a0_0 = 2 then ((octroiref31_BoxNumber.f a0_1).bind fun t477 => (some t477)) else (if a0_0 = 3 then (octroiref31_right.l0 kj1 0 a0_0 a0_1 a0_2 l0_3 l0_4) else (octroiref31_right.l1 kj1 0 a0_0 a0_1 a0_2 l0_3 l0_4)))) = some r := by rw [if_neg (show ¬ (false = true) by decide)] at H; exact H
    clear H
    have H := H1
    clear H1
    by_cases c13 : a0_0 = 1
    ·rw [if_pos c13] at H
     have c13b0 : (a0_0 == 1) = true := beq_iff_eq.mpr c13
     have c13b1 : (a0_0 != 1) = false := bne_eq_false_iff_eq.mpr c13
     clear c13
     replace H := Option.bind_eq_some_iff.mp H
     obtain ⟨t476, A140, H⟩ := H
     replace H : (some t476) = some r := H
     have A14 := A0m A140
     clear A140
     obtain rfl := Option.some.inj H
     have hcz15_0 : wc.cell? ⟨gb474, 0, none⟩ = some (.int .i64 a0_0) := (kC BK474.out 0).trans rfl
     have hcz15_1 : wc.cell? ⟨gb474, 1, none⟩ = some (.int .i64 a0_1) := (kC BK474.out 1).trans rfl
     have hcz15_2 : wc.cell? ⟨gb474, 2, none⟩ = some (.string a0_2) := (kC BK474.out 2).trans rfl
     have hcz15_3 : wc.cell? ⟨gb474, 3, none⟩ = some (.slice A0_3 l0_3.length c0_3) := (kC BK474.out 3).trans rfl
     have hcz15_4 : wc.cell? ⟨gb474, 4, none⟩ = some (.slice A0_4 l0_4.length c0_4) := (kC BK474.out 4).trans rfl
     have hfz15_0 := kF BK474.out 0
     have hfz15_1 := kF BK474.out 1
     have hfz15_2 := kF BK474.out 2
     have hfz15_3 := kF BK474.out 3
     have hfz15_4 := kF BK474.out 4
     go_wp2_with (first | (go_at_call 108; (with_reducible refine (octroiref31_number.calls a0_1 t476 _ A14.out).mono ?_); rintro e w' ⟨rfl, ⟨nd, rfl⟩⟩; (try first | exact ⟨rfl, _, World.drewN_drewN _ _ _⟩ | exact ⟨rfl, _, Eq.trans (World.drewN_drewN _ _ _) (congrArg (World.drewN _) (Nat.add_assoc _ _ _))⟩)))
     repeat (go_quiet (first | (go_at_call 108; (with_reducible refine (octroiref31_number.calls a0_1 t476 _ A14.out).mono ?_); rintro e w' ⟨rfl, ⟨nd, rfl⟩⟩; (try first | exact ⟨rfl, _, World.drewN_drewN _ _ _⟩ | exact ⟨rfl, _, Eq.trans (World.drewN_drewN _ _ _) (congrArg (World.drewN _) (Nat.add_assoc _ _ _))⟩))); try go_wp2_with (first | (go_at_call 108; (with_reducible refine (octroiref31_number.calls a0_1 t476 _ A14.out).mono ?_); rintro e w' ⟨rfl, ⟨nd, rfl⟩⟩; (try first | exact ⟨rfl, _, World.drewN_drewN _ _ _⟩ | exact ⟨rfl, _, Eq.trans (World.drewN_drewN _ _ _) (congrArg (World.drewN _) (Nat.add_assoc _ _ _))⟩))))
     go_ret
     exact ⟨by first | rfl | (simp [errW_none, errW_some] <;> rfl) | (simp [*, errW_none, errW_some] <;> rfl), by repeat (first | (with_reducible first | exact HB.out | apply bA | apply bN | apply bD | refine bS ?_ GE474.out) | exact HB.out)⟩
    ·rw [if_neg c13] at H
     have c13b0 : (a0_0 == 1) = false := beq_eq_false_iff_ne.mpr c13
     have c13b1 : (a0_0 != 1) = true := bne_iff_ne.mpr c13
     by_cases c16 : a0_0 = 2
     ·rw [if_pos c16] at H
      have c16b0 : (a0_0 == 2) = true := beq_iff_eq.mpr c16
      have c16b1 : (a0_0 != 2) = false := bne_eq_false_iff_eq.mpr c16
      clear c16
      replace H := Option.bind_eq_some_iff.mp H
      obtain ⟨t477, A170, H⟩ := H
      replace H : (some t477) = some r := H
      have A17 := A0m A170
      clear A170
      obtain rfl := Option.some.inj H
      have hcz18_0 : wc.cell? ⟨gb474, 0, none⟩ = some (.int .i64 a0_0) := (kC BK474.out 0).trans rfl
      have hcz18_1 : wc.cell? ⟨gb474, 1, none⟩ = some (.int .i64 a0_1) := (kC BK474.out 1).trans rfl
      have hcz18_2 : wc.cell? ⟨gb474, 2, none⟩ = some (.string a0_2) := (kC BK474.out 2).trans rfl
      have hcz18_3 : wc.cell? ⟨gb474, 3, none⟩ = some (.slice A0_3 l0_3.length c0_3) := (kC BK474.out 3).trans rfl
      have hcz18_4 : wc.cell? ⟨gb474, 4, none⟩ = some (.slice A0_4 l0_4.length c0_4) := (kC BK474.out 4).trans rfl
      have hfz18_0 := kF BK474.out 0
      have hfz18_1 := kF BK474.out 1
      have hfz18_2 := kF BK474.out 2
      have hfz18_3 := kF BK474.out 3
      have hfz18_4 := kF BK474.out 4
      go_wp2_with (first | (go_at_call 109; (with_reducible refine (octroiref31_BoxNumber.calls a0_1 t477 _ A17.out).mono ?_); rintro e w' ⟨rfl, ⟨nd, rfl⟩⟩; (try first | exact ⟨rfl, _, World.drewN_drewN _ _ _⟩ | exact ⟨rfl, _, Eq.trans (World.drewN_drewN _ _ _) (congrArg (World.drewN _) (Nat.add_assoc _ _ _))⟩)))
      repeat (go_quiet (first | (go_at_call 109; (with_reducible refine (octroiref31_BoxNumber.calls a0_1 t477 _ A17.out).mono ?_); rintro e w' ⟨rfl, ⟨nd, rfl⟩⟩; (try first | exact ⟨rfl, _, World.drewN_drewN _ _ _⟩ | exact ⟨rfl, _, Eq.trans (World.drewN_drewN _ _ _) (congrArg (World.drewN _) (Nat.add_assoc _ _ _))⟩))); try go_wp2_with (first | (go_at_call 109; (with_reducible refine (octroiref31_BoxNumber.calls a0_1 t477 _ A17.out).mono ?_); rintro e w' ⟨rfl, ⟨nd, rfl⟩⟩; (try first | exact ⟨rfl, _, World.drewN_drewN _ _ _⟩ | exact ⟨rfl, _, Eq.trans (World.drewN_drewN _ _ _) (congrArg (World.drewN _) (Nat.add_assoc _ _ _))⟩))))
      go_ret
      exact ⟨by first | rfl | (simp [errW_none, errW_some] <;> rfl) | (simp [*, errW_none, errW_some] <;> rfl), by repeat (first | (with_reducible first | exact HB.out | apply bA | apply bN | apply bD | refine bS ?_ GE474.out) | exact HB.out)⟩
     ·rw [if_neg c16] at H
      have c16b0 : (a0_0 == 2) = false := beq_eq_false_iff_ne.mpr c16
      have c16b1 : (a0_0 != 2) = true := bne_iff_ne.mpr c16
      by_cases c19 : a0_0 = 3
      ·rw [if_pos c19] at H
       have c19b0 : (a0_0 == 3) = true := beq_iff_eq.mpr c19
       have c19b1 : (a0_0 != 3) = false := bne_eq_false_iff_eq.mpr c19
       clear c19
       have H' := A0m H
       clear H
       have hcz20_0 : wc.cell? ⟨gb474, 0, none⟩ = some (.int .i64 a0_0) := (kC BK474.out 0).trans rfl
       have hcz20_1 : wc.cell? ⟨gb474, 1, none⟩ = some (.int .i64 a0_1) := (kC BK474.out 1).trans rfl
       have hcz20_2 : wc.cell? ⟨gb474, 2, none⟩ = some (.string a0_2) := (kC BK474.out 2).trans rfl
       have hcz20_3 : wc.cell? ⟨gb474, 3, none⟩ = some (.slice A0_3 l0_3.length c0_3) := (kC BK474.out 3).trans rfl
       have hcz20_4 : wc.cell? ⟨gb474, 4, none⟩ = some (.slice A0_4 l0_4.length c0_4) := (kC BK474.out 4).trans rfl
       have hfz20_0 := kF BK474.out 0
       have hfz20_1 := kF BK474.out 1
       have hfz20_2 := kF BK474.out 2
       have hfz20_3 := kF BK474.out 3
       have hfz20_4 := kF BK474.out 4
       go_wp2
       repeat (go_quiet (fail); try go_wp2)
       go_loopg [3] kj1 (fun kq v3 w' => ∃ (x3_2 : Int), v3 = .int .i64 x3_2 ∧ Aside0 (octroiref31_right.l0 kq x3_2 a0_0 a0_1 a0_2 l0_3 l0_4 = some r) ∧ Aside0 (kq ≤ kj1) ∧ Aside0 (w'.heap[gb474]? = some (.cells #[.int .i64 a0_0, .int .i64 a0_1, .string a0_2, (.slice A0_3 l0_3.length c0_3), (.slice A0_4 l0_4.length c0_4)] 25 (0, 0))) ∧ Aside0 (Below w.heap.size w w'))
       case atStart => exact ⟨(0), (by first | rfl | (simp; done) | (simp [*]; done)), H', ⟨Nat.le_refl _⟩, ⟨by (with_reducible repeat (first | refine kN ?_ _ | refine kD ?_ | refine kA ?_ _)); exact BK474.out⟩, ⟨by repeat (first | (with_reducible first | exact HB.out | apply bA | apply bN | apply bD | refine bS ?_ GE474.out) | exact HB.out)⟩⟩
       case round =>
        clear H'
        try clear c1
        try clear p2
        try clear c5
        try clear c5b0
        try clear c5b1
        try clear c6
        try clear c6b0
        try clear c6b1
        try clear c8
        try clear c8b0
        try clear c8b1
        try clear c12
        try clear c13
        try clear c13b0
        try clear c13b1
        try clear c16
        try clear c16b0
        try clear c16b1
        try clear c19
        try clear c19b0
        try clear c19b1
        try clear hcz10_0
        try clear hcz10_1
        try clear hcz10_2
        try clear hcz10_3
        try clear hcz10_4
        try clear hcz11_0
        try clear hcz11_1
        try clear hcz11_2
        try clear hcz11_3
        try clear hcz11_4
        try clear hcz15_0
        try clear hcz15_1
        try clear hcz15_2
        try clear hcz15_3
        try clear hcz15_4
        try clear hcz18_0
        try clear hcz18_1
        try clear hcz18_2
        try clear hcz18_3
        try clear hcz18_4
        try clear hcz20_0
        try clear hcz20_1
        try clear hcz20_2
        try clear hcz20_3
        try clear hcz20_4
        try clear hcz7_0
        try clear hcz7_1
        try clear hcz7_2
        try clear hcz7_3
        try clear hcz7_4
        try clear hcz9_0
        try clear hcz9_1
        try clear hcz9_2
        try clear hcz9_3
        try clear hcz9_4
        try clear hfz10_0
        try clear hfz10_1
        try clear hfz10_2
        try clear hfz10_3
        try clear hfz10_4
        try clear hfz11_0
        try clear hfz11_1
        try clear hfz11_2
        try clear hfz11_3
        try clear hfz11_4
        try clear hfz15_0
        try clear hfz15_1
        try clear hfz15_2
        try clear hfz15_3
        try clear hfz15_4
        try clear hfz18_0
        try clear hfz18_1
        try clear hfz18_2
        try clear hfz18_3
        try clear hfz18_4
        try clear hfz20_0
        try clear hfz20_1
        try clear hfz20_2
        try clear hfz20_3
        try clear hfz20_4
        try clear hfz7_0
        try clear hfz7_1
        try clear hfz7_2
        try clear hfz7_3
        try clear hfz7_4
        try clear hfz9_0
        try clear hfz9_1
        try clear hfz9_2
        try clear hfz9_3
        try clear hfz9_4
        try clear p2
        obtain ⟨x3_2, rfl, HA, HK2, BK474, HB⟩ := hrel
        cases gk with
        | zero => exact absurd HA.out (by simp [octroiref31_right.l0])
        | succ k2 =>
         have H := HA.out
         clear HA
         simp only [octroiref31_right.l0] at H
         by_cases c21 : x3_2 < (l0_3.length : Int)
         ·rw [if_pos c21] at H
          have c21b0 : decide (x3_2 < (l0_3.length : Int)) = true := decide_eq_true c21
          clear c21
          by_cases c22 : 0 ≤ x3_2
          ·rw [if_pos c22] at H
           have c22b0 : decide (0 ≤ x3_2) = true := decide_eq_true c22
           clear c22
           replace H := Option.bind_eq_some_iff.mp H
           obtain ⟨t481, A230, H⟩ := H
           replace H : (if t481 = true then (if ((rd_T70 l0_3 x3_2).f1) = 61 then ((octroiref31_number.f ((rd_T70 l0_3 x3_2).f2)).bind fun t482 => (if t482 = true then (octroiref31_right.l0 k2 (wrap64 (x3_2 + 1)) a0_0 a0_1 a0_2 l0_3 l0_4) else (some false))) else (if ((rd_T70 l0_3 x3_2).f1) = 60 then ((octroiref31_number.f ((rd_T70 l0_3 x3_2).f2)).bind fun t483 => (if t483 = true then (octroiref31_right.l0 k2 (wrap64 (x3_2 + 1)) a0_0 a0_1 a0_2 l0_3 l0_4) else (some false))) else (if ((rd_T70 l0_3 x3_2).f1) = 62 then ((octroiref31_number.f ((rd_T70 l0_3 x3_2).f2)).bind fun t484 => (if t484 = true then (octroiref31_right.l0 k2 (wrap64 (x3_2 + 1)) a0_0 a0_1 a0_2 l0_3 l0_4) else (some false))) else (some false)))) else (some false)) = some r := H
           have A23 := A0m A230
           clear A230
           by_cases c24 : t481 = true
           ·subst c24
            have H1 : (if ((rd_T70 l0_3 x3_2).f1) = 61 then ((octroiref31_number.f ((rd_T70 l0_3 x3_2).f2)).bind fun t482 => (if t482 = true then (octroiref31_right.l0 k2 (wrap64 (x3_2 + 1)) a0_0 a0_1 a0_2 l0_3 l0_4) else (some false))) else (if ((rd_T70 l0_3 x3_2).f1) = 60 then ((octroiref31_number.f ((rd_T70 l0_3 x3_2).f2)).bind fun t483 => (if t483 = true then (octroiref31_right.l0 k2 (wrap64 (x3_2 + 1)) a0_0 a0_1 a0_2 l0_3 l0_4) else (some false))) else (if ((rd_T70 l0_3 x3_2).f1) = 62 then ((octroiref31_number.f ((rd_T70 l0_3 x3_2).f2)).bind fun t484 => (if t484 = true then (octroiref31_right.l0 k2 (wrap64 (x3_2 + 1)) a0_0 a0_1 a0_2 l0_3 l0_4) else (some false))) else (some false)))) = some r := by rw [if_pos rfl] at H; exact H
            clear H
            have H := H1
            clear H1
            by_cases c25 : ((rd_T70 l0_3 x3_2).f1) = 61
            ·rw [if_pos c25] at H
             have c25b0 : (((rd_T70 l0_3 x3_2).f1) == 61) = true := beq_iff_eq.mpr c25
             have c25b1 : (((rd_T70 l0_3 x3_2).f1) != 61) = false := bne_eq_false_iff_eq.mpr c25
             clear c25
             replace H := Option.bind_eq_some_iff.mp H
             obtain ⟨t482, A260, H⟩ := H
             replace H : (if t482 = true then (octroiref31_right.l0 k2 (wrap64 (x3_2 + 1)) a0_0 a0_1 a0_2 l0_3 l0_4) else (some false)) = some r := H
             have A26 := A0m A260
             clear A260
             by_cases c27 : t482 = true
             ·subst c27
              have H1 : (octroiref31_right.l0 k2 (wrap64 (x3_2 + 1)) a0_0 a0_1 a0_2 l0_3 l0_4) = some r := by rw [if_pos rfl] at H; exact H
              clear H
              have H := H1
              clear H1
              have H' := A0m H
              clear H
              have hcz28_0 : wr.cell? ⟨gb474, 0, none⟩ = some (.int .i64 a0_0) := (kC BK474.out 0).trans rfl
              have hcz28_1 : wr.cell? ⟨gb474, 1, none⟩ = some (.int .i64 a0_1) := (kC BK474.out 1).trans rfl
              have hcz28_2 : wr.cell? ⟨gb474, 2, none⟩ = some (.string a0_2) := (kC BK474.out 2).trans rfl
              have hcz28_3 : wr.cell? ⟨gb474, 3, none⟩ = some (.slice A0_3 l0_3.length c0_3) := (kC BK474.out 3).trans rfl
              have hcz28_4 : wr.cell? ⟨gb474, 4, none⟩ = some (.slice A0_4 l0_4.length c0_4) := (kC BK474.out 4).trans rfl
              have hfz28_0 := kF BK474.out 0
              have hfz28_1 := kF BK474.out 1
              have hfz28_2 := kF BK474.out 2
              have hfz28_3 := kF BK474.out 3
              have hfz28_4 := kF BK474.out 4
              have p479 : 0 ≤ (x3_2 : Int) := dT (by first | (with_reducible assumption) | assumption)
              have q479 : x3_2 < (l0_3.length : Int) := dT (by first | (with_reducible assumption) | assumption)
              obtain ⟨ad479, e479, hx479_0, hx479_1, hx479_2⟩ := at_T70 HR0_3.out x3_2 p479 q479
              cases e479
              replace hx479_0 := (HB.out.cell (wL w _ hx479_0)).trans hx479_0
              replace hx479_1 := (HB.out.cell (wL w _ hx479_1)).trans hx479_1
              replace hx479_2 := (HB.out.cell (wL w _ hx479_2)).trans hx479_2
              replace p479 := eq_true p479
              replace q479 := eq_true q479
              go_wp2_with (first | ((with_reducible refine gate_dst (N := 4) rfl ?_); (try (refine gate_guard (by rfl) ?_; dsimp only)); refine box_event ?hg (N := 4) ?hd (cs := #[.string (⟨#[]⟩ : ByteArray), .int .u8 0, .int .i64 0]) (t := 70) ?hr ?_; (case hd => rfl); (case hg => rfl); (case hr => first | (go_simp; done) | (go_simp; rfl)); intro gb480 hg w29 hbox hb; have n0_ := A0m (blk_below (g := gb474) (o := .cells #[.int .i64 a0_0, .int .i64 a0_1, .string a0_2, .slice (some ad479) l0_3.length c0_3, .slice A0_4 l0_4.length c0_4] 25 (0, 0)) (by (with_reducible repeat (first | refine kN ?_ _ | refine kD ?_ | refine kA ?_ _)); exact BK474.out) hb); have n1_ := A0m (below_step (by repeat (first | (with_reducible first | exact HB.out | apply bA | apply bN | apply bD | refine bS ?_ GE474.out) | exact HB.out)) hb); have n2_ := A0m (hbox); have n3_ := A0m ((by rw [hg]; exact (below_size (by repeat (first | (with_reducible first | exact HB.out | apply bA | apply bN | apply bD | refine bS ?_ GE474.out) | exact HB.out))) : w.heap.size ≤ gb480)); have n4_ := A0m ((by rw [hg]; exact (below_size (by repeat (first | (with_reducible first | exact HB.out | apply bA | apply bN | apply bD | refine bS ?_ GE474.out) | exact HB.out))) : w.heap.size ≤ gb480)); have n5_ := A0m ((by rw [hg]; exact Nat.ne_of_lt (blk_lt (g := gb474) (o := .cells #[.int .i64 a0_0, .int .i64 a0_1, .string a0_2, .slice (some ad479) l0_3.length c0_3, .slice A0_4 l0_4.length c0_4] 25 (0, 0)) (by (with_reducible repeat (first | refine kN ?_ _ | refine kD ?_ | refine kA ?_ _)); exact BK474.out)) : gb474 ≠ gb480)); have n6_ := A0m ((by rw [hg]; exact Nat.ne_of_gt (blk_lt (g := gb474) (o := .cells #[.int .i64 a0_0, .int .i64 a0_1, .string a0_2, .slice (some ad479) l0_3.length c0_3, .slice A0_4 l0_4.length c0_4] 25 (0, 0)) (by (with_reducible repeat (first | refine kN ?_ _ | refine kD ?_ | refine kA ?_ _)); exact BK474.out)) : gb480 ≠ gb474)); clear BK474; clear HB; have BK474 := n0_; have HB := n1_; have BK480 := n2_; have GW480 := n3_; have GE480 := n4_; have NB474_480 := n5_; have NB480_474 := n6_; clear n0_ n1_ n2_ n3_ n4_ n5_ n6_; clear hb hbox hg; have hnb30 := NB480_474.out; have hnc30 := NB474_480.out; have hcz31_0 : w29.cell? ⟨gb480, 0, none⟩ = some (.string (⟨#[]⟩ : ByteArray)) := (kC BK480.out 0).trans rfl; have hcz31_1 : w29.cell? ⟨gb480, 1, none⟩ = some (.int .u8 0) := (kC BK480.out 1).trans rfl; have hcz31_2 : w29.cell? ⟨gb480, 2, none⟩ = some (.int .i64 0) := (kC BK480.out 2).trans rfl; have hfz31_0 := kF BK480.out 0; have hfz31_1 := kF BK480.out 1; have hfz31_2 := kF BK480.out 2) | (go_at_call 110; (with_reducible refine (octroiref31_Name.calls k2 ((rd_T70 l0_3 x3_2).f0) true _ A23.out).mono ?_); rintro e w' ⟨rfl, ⟨nd, rfl⟩⟩; (try first | exact ⟨rfl, _, World.drewN_drewN _ _ _⟩ | exact ⟨rfl, _, Eq.trans (World.drewN_drewN _ _ _) (congrArg (World.drewN _) (Nat.add_assoc _ _ _))⟩)) | (go_at_call 108; (with_reducible refine (octroiref31_number.calls ((rd_T70 l0_3 x3_2).f2) true _ A26.out).mono ?_); rintro e w' ⟨rfl, ⟨nd, rfl⟩⟩; (try first | exact ⟨rfl, _, World.drewN_drewN _ _ _⟩ | exact ⟨rfl, _, Eq.trans (World.drewN_drewN _ _ _) (congrArg (World.drewN _) (Nat.add_assoc _ _ _))⟩)))
              repeat (go_quiet (first | ((with_reducible refine gate_dst (N := 4) rfl ?_); (try (refine gate_guard (by rfl) ?_; dsimp only)); refine box_event ?hg (N := 4) ?hd (cs := #[.string (⟨#[]⟩ : ByteArray), .int .u8 0, .int .i64 0]) (t := 70) ?hr ?_; (case hd => rfl); (case hg => rfl); (case hr => first | (go_simp; done) | (go_simp; rfl)); intro gb480 hg w29 hbox hb; have n0_ := A0m (blk_below (g := gb474) (o := .cells #[.int .i64 a0_0, .int .i64 a0_1, .string a0_2, .slice (some ad479) l0_3.length c0_3, .slice A0_4 l0_4.length c0_4] 25 (0, 0)) (by (with_reducible repeat (first | refine kN ?_ _ | refine kD ?_ | refine kA ?_ _)); exact BK474.out) hb); have n1_ := A0m (below_step (by repeat (first | (with_reducible first | exact HB.out | apply bA | apply bN | apply bD | refine bS ?_ GE474.out) | exact HB.out)) hb); have n2_ := A0m (hbox); have n3_ := A0m ((by rw [hg]; exact (below_size (by repeat (first | (with_reducible first | exact HB.out | apply bA | apply bN | apply bD | refine bS ?_ GE474.out) | exact HB.out))) : w.heap.size ≤ gb480)); have n4_ := A0m ((by rw [hg]; exact (below_size (by repeat (first | (with_reducible first | exact HB.out | apply bA | apply bN | apply bD | refine bS ?_ GE474.out) | exact HB.out))) : w.heap.size ≤ gb480)); have n5_ := A0m ((by rw [hg]; exact Nat.ne_of_lt (blk_lt (g := gb474) (o := .cells #[.int .i64 a0_0, .int .i64 a0_1, .string a0_2, .slice (some ad479) l0_3.length c0_3, .slice A0_4 l0_4.length c0_4] 25 (0, 0)) (by (with_reducible repeat (first | refine kN ?_ _ | refine kD ?_ | refine kA ?_ _)); exact BK474.out)) : gb474 ≠ gb480)); have n6_ := A0m ((by rw [hg]; exact Nat.ne_of_gt (blk_lt (g := gb474) (o := .cells #[.int .i64 a0_0, .int .i64 a0_1, .string a0_2, .slice (some ad479) l0_3.length c0_3, .slice A0_4 l0_4.length c0_4] 25 (0, 0)) (by (with_reducible repeat (first | refine kN ?_ _ | refine kD ?_ | refine kA ?_ _)); exact BK474.out)) : gb480 ≠ gb474)); clear BK474; clear HB; have BK474 := n0_; have HB := n1_; have BK480 := n2_; have GW480 := n3_; have GE480 := n4_; have NB474_480 := n5_; have NB480_474 := n6_; clear n0_ n1_ n2_ n3_ n4_ n5_ n6_; clear hb hbox hg; have hnb30 := NB480_474.out; have hnc30 := NB474_480.out; have hcz31_0 : w29.cell? ⟨gb480, 0, none⟩ = some (.string (⟨#[]⟩ : ByteArray)) := (kC BK480.out 0).trans rfl; have hcz31_1 : w29.cell? ⟨gb480, 1, none⟩ = some (.int .u8 0) := (kC BK480.out 1).trans rfl; have hcz31_2 : w29.cell? ⟨gb480, 2, none⟩ = some (.int .i64 0) := (kC BK480.out 2).trans rfl; have hfz31_0 := kF BK480.out 0; have hfz31_1 := kF BK480.out 1; have hfz31_2 := kF BK480.out 2) | (go_at_call 110; (with_reducible refine (octroiref31_Name.calls k2 ((rd_T70 l0_3 x3_2).f0) true _ A23.out).mono ?_); rintro e w' ⟨rfl, ⟨nd, rfl⟩⟩; (try first | exact ⟨rfl, _, World.drewN_drewN _ _ _⟩ | exact ⟨rfl, _, Eq.trans (World.drewN_drewN _ _ _) (congrArg (World.drewN _) (Nat.add_assoc _ _ _))⟩)) | (go_at_call 108; (with_reducible refine (octroiref31_number.calls ((rd_T70 l0_3 x3_2).f2) true _ A26.out).mono ?_); rintro e w' ⟨rfl, ⟨nd, rfl⟩⟩; (try first | exact ⟨rfl, _, World.drewN_drewN _ _ _⟩ | exact ⟨rfl, _, Eq.trans (World.drewN_drewN _ _ _) (congrArg (World.drewN _) (Nat.add_assoc _ _ _))⟩))); try go_wp2_with (first | ((with_reducible refine gate_dst (N := 4) rfl ?_); (try (refine gate_guard (by rfl) ?_; dsimp only)); refine box_event ?hg (N := 4) ?hd (cs := #[.string (⟨#[]⟩ : ByteArray), .int .u8 0, .int .i64 0]) (t := 70) ?hr ?_; (case hd => rfl); (case hg => rfl); (case hr => first | (go_simp; done) | (go_simp; rfl)); intro gb480 hg w29 hbox hb; have n0_ := A0m (blk_below (g := gb474) (o := .cells #[.int .i64 a0_0, .int .i64 a0_1, .string a0_2, .slice (some ad479) l0_3.length c0_3, .slice A0_4 l0_4.length c0_4] 25 (0, 0)) (by (with_reducible repeat (first | refine kN ?_ _ | refine kD ?_ | refine kA ?_ _)); exact BK474.out) hb); have n1_ := A0m (below_step (by repeat (first | (with_reducible first | exact HB.out | apply bA | apply bN | apply bD | refine bS ?_ GE474.out) | exact HB.out)) hb); have n2_ := A0m (hbox); have n3_ := A0m ((by rw [hg]; exact (below_size (by repeat (first | (with_reducible first | exact HB.out | apply bA | apply bN | apply bD | refine bS ?_ GE474.out) | exact HB.out))) : w.heap.size ≤ gb480)); have n4_ := A0m ((by rw [hg]; exact (below_size (by repeat (first | (with_reducible first | exact HB.out | apply bA | apply bN | apply bD | refine bS ?_ GE474.out) | exact HB.out))) : w.heap.size ≤ gb480)); have n5_ := A0m ((by rw [hg]; exact Nat.ne_of_lt (blk_lt (g := gb474) (o := .cells #[.int .i64 a0_0, .int .i64 a0_1, .string a0_2, .slice (some ad479) l0_3.length c0_3, .slice A0_4 l0_4.length c0_4] 25 (0, 0)) (by (with_reducible repeat (first | refine kN ?_ _ | refine kD ?_ | refine kA ?_ _)); exact BK474.out)) : gb474 ≠ gb480)); have n6_ := A0m ((by rw [hg]; exact Nat.ne_of_gt (blk_lt (g := gb474) (o := .cells #[.int .i64 a0_0, .int .i64 a0_1, .string a0_2, .slice (some ad479) l0_3.length c0_3, .slice A0_4 l0_4.length c0_4] 25 (0, 0)) (by (with_reducible repeat (first | refine kN ?_ _ | refine kD ?_ | refine kA ?_ _)); exact BK474.out)) : gb480 ≠ gb474)); clear BK474; clear HB; have BK474 := n0_; have HB := n1_; have BK480 := n2_; have GW480 := n3_; have GE480 := n4_; have NB474_480 := n5_; have NB480_474 := n6_; clear n0_ n1_ n2_ n3_ n4_ n5_ n6_; clear hb hbox hg; have hnb30 := NB480_474.out; have hnc30 := NB474_480.out; have hcz31_0 : w29.cell? ⟨gb480, 0, none⟩ = some (.string (⟨#[]⟩ : ByteArray)) := (kC BK480.out 0).trans rfl; have hcz31_1 : w29.cell? ⟨gb480, 1, none⟩ = some (.int .u8 0) := (kC BK480.out 1).trans rfl; have hcz31_2 : w29.cell? ⟨gb480, 2, none⟩ = some (.int .i64 0) := (kC BK480.out 2).trans rfl; have hfz31_0 := kF BK480.out 0; have hfz31_1 := kF BK480.out 1; have hfz31_2 := kF BK480.out 2) | (go_at_call 110; (with_reducible refine (octroiref31_Name.calls k2 ((rd_T70 l0_3 x3_2).f0) true _ A23.out).mono ?_); rintro e w' ⟨rfl, ⟨nd, rfl⟩⟩; (try first | exact ⟨rfl, _, World.drewN_drewN _ _ _⟩ | exact ⟨rfl, _, Eq.trans (World.drewN_drewN _ _ _) (congrArg (World.drewN _) (Nat.add_assoc _ _ _))⟩)) | (go_at_call 108; (with_reducible refine (octroiref31_number.calls ((rd_T70 l0_3 x3_2).f2) true _ A26.out).mono ?_); rintro e w' ⟨rfl, ⟨nd, rfl⟩⟩; (try first | exact ⟨rfl, _, World.drewN_drewN _ _ _⟩ | exact ⟨rfl, _, Eq.trans (World.drewN_drewN _ _ _) (congrArg (World.drewN _) (Nat.add_assoc _ _ _))⟩))))
              go_roundg k2
              case measure => have := HJ1.out; have := HK2.out; omega
              case rel => exact ⟨(wrap64 (x3_2 + 1)), (by first | rfl | (simp; done) | (simp [*]; done)), H', ⟨by have := HJ1.out; have := HK2.out; omega⟩, ⟨by (with_reducible repeat (first | refine kN ?_ _ | refine kD ?_ | refine kA ?_ _)); refine blk_far ?_ NB474_480.out _; (with_reducible repeat (first | refine kN ?_ _ | refine kD ?_ | refine kA ?_ _)); refine blk_far ?_ NB474_480.out _; (with_reducible repeat (first | refine kN ?_ _ | refine kD ?_ | refine kA ?_ _)); refine blk_far ?_ NB474_480.out _; (with_reducible repeat (first | refine kN ?_ _ | refine kD ?_ | refine kA ?_ _)); exact BK474.out⟩, ⟨by repeat (first | (with_reducible first | exact HB.out | apply bA | apply bN | apply bD | refine bS ?_ GE474.out | refine bS ?_ GE480.out) | exact HB.out)⟩⟩
             ·replace c27 := Bool.eq_false_iff.mpr c27
              subst c27
              have H1 : (some false) = some r := by rw [if_neg (show ¬ (false = true) by decide)] at H; exact H
              clear H
              have H := H1
              clear H1
              obtain rfl := Option.some.inj H
              have hcz32_0 : wr.cell? ⟨gb474, 0, none⟩ = some (.int .i64 a0_0) := (kC BK474.out 0).trans rfl
              have hcz32_1 : wr.cell? ⟨gb474, 1, none⟩ = some (.int .i64 a0_1) := (kC BK474.out 1).trans rfl
              have hcz32_2 : wr.cell? ⟨gb474, 2, none⟩ = some (.string a0_2) := (kC BK474.out 2).trans rfl
              have hcz32_3 : wr.cell? ⟨gb474, 3, none⟩ = some (.slice A0_3 l0_3.length c0_3) := (kC BK474.out 3).trans rfl
              have hcz32_4 : wr.cell? ⟨gb474, 4, none⟩ = some (.slice A0_4 l0_4.length c0_4) := (kC BK474.out 4).trans rfl
              have hfz32_0 := kF BK474.out 0
              have hfz32_1 := kF BK474.out 1
              have hfz32_2 := kF BK474.out 2
              have hfz32_3 := kF BK474.out 3
              have hfz32_4 := kF BK474.out 4
              have p479 : 0 ≤ (x3_2 : Int) := dT (by first | (with_reducible assumption) | assumption)
              have q479 : x3_2 < (l0_3.length : Int) := dT (by first | (with_reducible assumption) | assumption)
              obtain ⟨ad479, e479, hx479_0, hx479_1, hx479_2⟩ := at_T70 HR0_3.out x3_2 p479 q479
              cases e479
              replace hx479_0 := (HB.out.cell (wL w _ hx479_0)).trans hx479_0
              replace hx479_1 := (HB.out.cell (wL w _ hx479_1)).trans hx479_1
              replace hx479_2 := (HB.out.cell (wL w _ hx479_2)).trans hx479_2
              replace p479 := eq_true p479
              replace q479 := eq_true q479
              go_wp2_with (first | ((with_reducible refine gate_dst (N := 4) rfl ?_); (try (refine gate_guard (by rfl) ?_; dsimp only)); refine box_event ?hg (N := 4) ?hd (cs := #[.string (⟨#[]⟩ : ByteArray), .int .u8 0, .int .i64 0]) (t := 70) ?hr ?_; (case hd => rfl); (case hg => rfl); (case hr => first | (go_simp; done) | (go_simp; rfl)); intro gb480 hg w33 hbox hb; have n0_ := A0m (blk_below (g := gb474) (o := .cells #[.int .i64 a0_0, .int .i64 a0_1, .string a0_2, .slice (some ad479) l0_3.length c0_3, .slice A0_4 l0_4.length c0_4] 25 (0, 0)) (by (with_reducible repeat (first | refine kN ?_ _ | refine kD ?_ | refine kA ?_ _)); exact BK474.out) hb); have n1_ := A0m (below_step (by repeat (first | (with_reducible first | exact HB.out | apply bA | apply bN | apply bD | refine bS ?_ GE474.out) | exact HB.out)) hb); have n2_ := A0m (hbox); have n3_ := A0m ((by rw [hg]; exact (below_size (by repeat (first | (with_reducible first | exact HB.out | apply bA | apply bN | apply bD | refine bS ?_ GE474.out) | exact HB.out))) : w.heap.size ≤ gb480)); have n4_ := A0m ((by rw [hg]; exact (below_size (by repeat (first | (with_reducible first | exact HB.out | apply bA | apply bN | apply bD | refine bS ?_ GE474.out) | exact HB.out))) : w.heap.size ≤ gb480)); have n5_ := A0m ((by rw [hg]; exact Nat.ne_of_lt (blk_lt (g := gb474) (o := .cells #[.int .i64 a0_0, .int .i64 a0_1, .string a0_2, .slice (some ad479) l0_3.length c0_3, .slice A0_4 l0_4.length c0_4] 25 (0, 0)) (by (with_reducible repeat (first | refine kN ?_ _ | refine kD ?_ | refine kA ?_ _)); exact BK474.out)) : gb474 ≠ gb480)); have n6_ := A0m ((by rw [hg]; exact Nat.ne_of_gt (blk_lt (g := gb474) (o := .cells #[.int .i64 a0_0, .int .i64 a0_1, .string a0_2, .slice (some ad479) l0_3.length c0_3, .slice A0_4 l0_4.length c0_4] 25 (0, 0)) (by (with_reducible repeat (first | refine kN ?_ _ | refine kD ?_ | refine kA ?_ _)); exact BK474.out)) : gb480 ≠ gb474)); clear BK474; clear HB; have BK474 := n0_; have HB := n1_; have BK480 := n2_; have GW480 := n3_; have GE480 := n4_; have NB474_480 := n5_; have NB480_474 := n6_; clear n0_ n1_ n2_ n3_ n4_ n5_ n6_; clear hb hbox hg; have hnb34 := NB480_474.out; have hnc34 := NB474_480.out; have hcz35_0 : w33.cell? ⟨gb480, 0, none⟩ = some (.string (⟨#[]⟩ : ByteArray)) := (kC BK480.out 0).trans rfl; have hcz35_1 : w33.cell? ⟨gb480, 1, none⟩ = some (.int .u8 0) := (kC BK480.out 1).trans rfl; have hcz35_2 : w33.cell? ⟨gb480, 2, none⟩ = some (.int .i64 0) := (kC BK480.out 2).trans rfl; have hfz35_0 := kF BK480.out 0; have hfz35_1 := kF BK480.out 1; have hfz35_2 := kF BK480.out 2) | (go_at_call 110; (with_reducible refine (octroiref31_Name.calls k2 ((rd_T70 l0_3 x3_2).f0) true _ A23.out).mono ?_); rintro e w' ⟨rfl, ⟨nd, rfl⟩⟩; (try first | exact ⟨rfl, _, World.drewN_drewN _ _ _⟩ | exact ⟨rfl, _, Eq.trans (World.drewN_drewN _ _ _) (congrArg (World.drewN _) (Nat.add_assoc _ _ _))⟩)) | (go_at_call 108; (with_reducible refine (octroiref31_number.calls ((rd_T70 l0_3 x3_2).f2) false _ A26.out).mono ?_); rintro e w' ⟨rfl, ⟨nd, rfl⟩⟩; (try first | exact ⟨rfl, _, World.drewN_drewN _ _ _⟩ | exact ⟨rfl, _, Eq.trans (World.drewN_drewN _ _ _) (congrArg (World.drewN _) (Nat.add_assoc _ _ _))⟩)))
              repeat (go_quiet (first | ((with_reducible refine gate_dst (N := 4) rfl ?_); (try (refine gate_guard (by rfl) ?_; dsimp only)); refine box_event ?hg (N := 4) ?hd (cs := #[.string (⟨#[]⟩ : ByteArray), .int .u8 0, .int .i64 0]) (t := 70) ?hr ?_; (case hd => rfl); (case hg => rfl); (case hr => first | (go_simp; done) | (go_simp; rfl)); intro gb480 hg w33 hbox hb; have n0_ := A0m (blk_below (g := gb474) (o := .cells #[.int .i64 a0_0, .int .i64 a0_1, .string a0_2, .slice (some ad479) l0_3.length c0_3, .slice A0_4 l0_4.length c0_4] 25 (0, 0)) (by (with_reducible repeat (first | refine kN ?_ _ | refine kD ?_ | refine kA ?_ _)); exact BK474.out) hb); have n1_ := A0m (below_step (by repeat (first | (with_reducible first | exact HB.out | apply bA | apply bN | apply bD | refine bS ?_ GE474.out) | exact HB.out)) hb); have n2_ := A0m (hbox); have n3_ := A0m ((by rw [hg]; exact (below_size (by repeat (first | (with_reducible first | exact HB.out | apply bA | apply bN | apply bD | refine bS ?_ GE474.out) | exact HB.out))) : w.heap.size ≤ gb480)); have n4_ := A0m ((by rw [hg]; exact (below_size (by repeat (first | (with_reducible first | exact HB.out | apply bA | apply bN | apply bD | refine bS ?_ GE474.out) | exact HB.out))) : w.heap.size ≤ gb480)); have n5_ := A0m ((by rw [hg]; exact Nat.ne_of_lt (blk_lt (g := gb474) (o := .cells #[.int .i64 a0_0, .int .i64 a0_1, .string a0_2, .slice (some ad479) l0_3.length c0_3, .slice A0_4 l0_4.length c0_4] 25 (0, 0)) (by (with_reducible repeat (first | refine kN ?_ _ | refine kD ?_ | refine kA ?_ _)); exact BK474.out)) : gb474 ≠ gb480)); have n6_ := A0m ((by rw [hg]; exact Nat.ne_of_gt (blk_lt (g := gb474) (o := .cells #[.int .i64 a0_0, .int .i64 a0_1, .string a0_2, .slice (some ad479) l0_3.length c0_3, .slice A0_4 l0_4.length c0_4] 25 (0, 0)) (by (with_reducible repeat (first | refine kN ?_ _ | refine kD ?_ | refine kA ?_ _)); exact BK474.out)) : gb480 ≠ gb474)); clear BK474; clear HB; have BK474 := n0_; have HB := n1_; have BK480 := n2_; have GW480 := n3_; have GE480 := n4_; have NB474_480 := n5_; have NB480_474 := n6_; clear n0_ n1_ n2_ n3_ n4_ n5_ n6_; clear hb hbox hg; have hnb34 := NB480_474.out; have hnc34 := NB474_480.out; have hcz35_0 : w33.cell? ⟨gb480, 0, none⟩ = some (.string (⟨#[]⟩ : ByteArray)) := (kC BK480.out 0).trans rfl; have hcz35_1 : w33.cell? ⟨gb480, 1, none⟩ = some (.int .u8 0) := (kC BK480.out 1).trans rfl; have hcz35_2 : w33.cell? ⟨gb480, 2, none⟩ = some (.int .i64 0) := (kC BK480.out 2).trans rfl; have hfz35_0 := kF BK480.out 0; have hfz35_1 := kF BK480.out 1; have hfz35_2 := kF BK480.out 2) | (go_at_call 110; (with_reducible refine (octroiref31_Name.calls k2 ((rd_T70 l0_3 x3_2).f0) true _ A23.out).mono ?_); rintro e w' ⟨rfl, ⟨nd, rfl⟩⟩; (try first | exact ⟨rfl, _, World.drewN_drewN _ _ _⟩ | exact ⟨rfl, _, Eq.trans (World.drewN_drewN _ _ _) (congrArg (World.drewN _) (Nat.add_assoc _ _ _))⟩)) | (go_at_call 108; (with_reducible refine (octroiref31_number.calls ((rd_T70 l0_3 x3_2).f2) false _ A26.out).mono ?_); rintro e w' ⟨rfl, ⟨nd, rfl⟩⟩; (try first | exact ⟨rfl, _, World.drewN_drewN _ _ _⟩ | exact ⟨rfl, _, Eq.trans (World.drewN_drewN _ _ _) (congrArg (World.drewN _) (Nat.add_assoc _ _ _))⟩))); try go_wp2_with (first | ((with_reducible refine gate_dst (N := 4) rfl ?_); (try (refine gate_guard (by rfl) ?_; dsimp only)); refine box_event ?hg (N := 4) ?hd (cs := #[.string (⟨#[]⟩ : ByteArray), .int .u8 0, .int .i64 0]) (t := 70) ?hr ?_; (case hd => rfl); (case hg => rfl); (case hr => first | (go_simp; done) | (go_simp; rfl)); intro gb480 hg w33 hbox hb; have n0_ := A0m (blk_below (g := gb474) (o := .cells #[.int .i64 a0_0, .int .i64 a0_1, .string a0_2, .slice (some ad479) l0_3.length c0_3, .slice A0_4 l0_4.length c0_4] 25 (0, 0)) (by (with_reducible repeat (first | refine kN ?_ _ | refine kD ?_ | refine kA ?_ _)); exact BK474.out) hb); have n1_ := A0m (below_step (by repeat (first | (with_reducible first | exact HB.out | apply bA | apply bN | apply bD | refine bS ?_ GE474.out) | exact HB.out)) hb); have n2_ := A0m (hbox); have n3_ := A0m ((by rw [hg]; exact (below_size (by repeat (first | (with_reducible first | exact HB.out | apply bA | apply bN | apply bD | refine bS ?_ GE474.out) | exact HB.out))) : w.heap.size ≤ gb480)); have n4_ := A0m ((by rw [hg]; exact (below_size (by repeat (first | (with_reducible first | exact HB.out | apply bA | apply bN | apply bD | refine bS ?_ GE474.out) | exact HB.out))) : w.heap.size ≤ gb480)); have n5_ := A0m ((by rw [hg]; exact Nat.ne_of_lt (blk_lt (g := gb474) (o := .cells #[.int .i64 a0_0, .int .i64 a0_1, .string a0_2, .slice (some ad479) l0_3.length c0_3, .slice A0_4 l0_4.length c0_4] 25 (0, 0)) (by (with_reducible repeat (first | refine kN ?_ _ | refine kD ?_ | refine kA ?_ _)); exact BK474.out)) : gb474 ≠ gb480)); have n6_ := A0m ((by rw [hg]; exact Nat.ne_of_gt (blk_lt (g := gb474) (o := .cells #[.int .i64 a0_0, .int .i64 a0_1, .string a0_2, .slice (some ad479) l0_3.length c0_3, .slice A0_4 l0_4.length c0_4] 25 (0, 0)) (by (with_reducible repeat (first | refine kN ?_ _ | refine kD ?_ | refine kA ?_ _)); exact BK474.out)) : gb480 ≠ gb474)); clear BK474; clear HB; have BK474 := n0_; have HB := n1_; have BK480 := n2_; have GW480 := n3_; have GE480 := n4_; have NB474_480 := n5_; have NB480_474 := n6_; clear n0_ n1_ n2_ n3_ n4_ n5_ n6_; clear hb hbox hg; have hnb34 := NB480_474.out; have hnc34 := NB474_480.out; have hcz35_0 : w33.cell? ⟨gb480, 0, none⟩ = some (.string (⟨#[]⟩ : ByteArray)) := (kC BK480.out 0).trans rfl; have hcz35_1 : w33.cell? ⟨gb480, 1, none⟩ = some (.int .u8 0) := (kC BK480.out 1).trans rfl; have hcz35_2 : w33.cell? ⟨gb480, 2, none⟩ = some (.int .i64 0) := (kC BK480.out 2).trans rfl; have hfz35_0 := kF BK480.out 0; have hfz35_1 := kF BK480.out 1; have hfz35_2 := kF BK480.out 2) | (go_at_call 110; (with_reducible refine (octroiref31_Name.calls k2 ((rd_T70 l0_3 x3_2).f0) true _ A23.out).mono ?_); rintro e w' ⟨rfl, ⟨nd, rfl⟩⟩; (try first | exact ⟨rfl, _, World.drewN_drewN _ _ _⟩ | exact ⟨rfl, _, Eq.trans (World.drewN_drewN _ _ _) (congrArg (World.drewN _) (Nat.add_assoc _ _ _))⟩)) | (go_at_call 108; (with_reducible refine (octroiref31_number.calls ((rd_T70 l0_3 x3_2).f2) false _ A26.out).mono ?_); rintro e w' ⟨rfl, ⟨nd, rfl⟩⟩; (try first | exact ⟨rfl, _, World.drewN_drewN _ _ _⟩ | exact ⟨rfl, _, Eq.trans (World.drewN_drewN _ _ _) (congrArg (World.drewN _) (Nat.add_assoc _ _ _))⟩))))
              go_ret
              exact ⟨by first | rfl | (simp [errW_none, errW_some] <;> rfl) | (simp [*, errW_none, errW_some] <;> rfl), by repeat (first | (with_reducible first | exact HB.out | apply bA | apply bN | apply bD | refine bS ?_ GE474.out | refine bS ?_ GE480.out) | exact HB.out)⟩
            ·rw [if_neg c25] at H
             have c25b0 : (((rd_T70 l0_3 x3_2).f1) == 61) = false := beq_eq_false_iff_ne.mpr c25
             have c25b1 : (((rd_T70 l0_3 x3_2).f1) != 61) = true := bne_iff_ne.mpr c25
             by_cases c36 : ((rd_T70 l0_3 x3_2).f1) = 60
             ·rw [if_pos c36] at H
              have c36b0 : (((rd_T70 l0_3 x3_2).f1) == 60) = true := beq_iff_eq.mpr c36
              have c36b1 : (((rd_T70 l0_3 x3_2).f1) != 60) = false := bne_eq_false_iff_eq.mpr c36
              clear c36
              replace H := Option.bind_eq_some_iff.mp H
              obtain ⟨t483, A370, H⟩ := H
              replace H : (if t483 = true then (octroiref31_right.l0 k2 (wrap64 (x3_2 + 1)) a0_0 a0_1 a0_2 l0_3 l0_4) else (some false)) = some r := H
              have A37 := A0m A370
              clear A370
              by_cases c38 : t483 = true
              ·subst c38
               have H1 : (octroiref31_right.l0 k2 (wrap64 (x3_2 + 1)) a0_0 a0_1 a0_2 l0_3 l0_4) = some r := by rw [if_pos rfl] at H; exact H
               clear H
               have H := H1
               clear H1
               have H' := A0m H
               clear H
               have hcz39_0 : wr.cell? ⟨gb474, 0, none⟩ = some (.int .i64 a0_0) := (kC BK474.out 0).trans rfl
               have hcz39_1 : wr.cell? ⟨gb474, 1, none⟩ = some (.int .i64 a0_1) := (kC BK474.out 1).trans rfl
               have hcz39_2 : wr.cell? ⟨gb474, 2, none⟩ = some (.string a0_2) := (kC BK474.out 2).trans rfl
               have hcz39_3 : wr.cell? ⟨gb474, 3, none⟩ = some (.slice A0_3 l0_3.length c0_3) := (kC BK474.out 3).trans rfl
               have hcz39_4 : wr.cell? ⟨gb474, 4, none⟩ = some (.slice A0_4 l0_4.length c0_4) := (kC BK474.out 4).trans rfl
               have hfz39_0 := kF BK474.out 0
               have hfz39_1 := kF BK474.out 1
               have hfz39_2 := kF BK474.out 2
               have hfz39_3 := kF BK474.out 3
               have hfz39_4 := kF BK474.out 4
               have p479 : 0 ≤ (x3_2 : Int) := dT (by first | (with_reducible assumption) | assumption)
               have q479 : x3_2 < (l0_3.length : Int) := dT (by first | (with_reducible assumption) | assumption)
               obtain ⟨ad479, e479, hx479_0, hx479_1, hx479_2⟩ := at_T70 HR0_3.out x3_2 p479 q479
               cases e479
               replace hx479_0 := (HB.out.cell (wL w _ hx479_0)).trans hx479_0
               replace hx479_1 := (HB.out.cell (wL w _ hx479_1)).trans hx479_1
               replace hx479_2 := (HB.out.cell (wL w _ hx479_2)).trans hx479_2
               replace p479 := eq_true p479
               replace q479 := eq_true q479
               go_wp2_with (first | ((with_reducible refine gate_dst (N := 4) rfl ?_); (try (refine gate_guard (by rfl) ?_; dsimp only)); refine box_event ?hg (N := 4) ?hd (cs := #[.string (⟨#[]⟩ : ByteArray), .int .u8 0, .int .i64 0]) (t := 70) ?hr ?_; (case hd => rfl); (case hg => rfl); (case hr => first | (go_simp; done) | (go_simp; rfl)); intro gb480 hg w40 hbox hb; have n0_ := A0m (blk_below (g := gb474) (o := .cells #[.int .i64 a0_0, .int .i64 a0_1, .string a0_2, .slice (some ad479) l0_3.length c0_3, .slice A0_4 l0_4.length c0_4] 25 (0, 0)) (by (with_reducible repeat (first | refine kN ?_ _ | refine kD ?_ | refine kA ?_ _)); exact BK474.out) hb); have n1_ := A0m (below_step (by repeat (first | (with_reducible first | exact HB.out | apply bA | apply bN | apply bD | refine bS ?_ GE474.out) | exact HB.out)) hb); have n2_ := A0m (hbox); have n3_ := A0m ((by rw [hg]; exact (below_size (by repeat (first | (with_reducible first | exact HB.out | apply bA | apply bN | apply bD | refine bS ?_ GE474.out) | exact HB.out))) : w.heap.size ≤ gb480)); have n4_ := A0m ((by rw [hg]; exact (below_size (by repeat (first | (with_reducible first | exact HB.out | apply bA | apply bN | apply bD | refine bS ?_ GE474.out) | exact HB.out))) : w.heap.size ≤ gb480)); have n5_ := A0m ((by rw [hg]; exact Nat.ne_of_lt (blk_lt (g := gb474) (o := .cells #[.int .i64 a0_0, .int .i64 a0_1, .string a0_2, .slice (some ad479) l0_3.length c0_3, .slice A0_4 l0_4.length c0_4] 25 (0, 0)) (by (with_reducible repeat (first | refine kN ?_ _ | refine kD ?_ | refine kA ?_ _)); exact BK474.out)) : gb474 ≠ gb480)); have n6_ := A0m ((by rw [hg]; exact Nat.ne_of_gt (blk_lt (g := gb474) (o := .cells #[.int .i64 a0_0, .int .i64 a0_1, .string a0_2, .slice (some ad479) l0_3.length c0_3, .slice A0_4 l0_4.length c0_4] 25 (0, 0)) (by (with_reducible repeat (first | refine kN ?_ _ | refine kD ?_ | refine kA ?_ _)); exact BK474.out)) : gb480 ≠ gb474)); clear BK474; clear HB; have BK474 := n0_; have HB := n1_; have BK480 := n2_; have GW480 := n3_; have GE480 := n4_; have NB474_480 := n5_; have NB480_474 := n6_; clear n0_ n1_ n2_ n3_ n4_ n5_ n6_; clear hb hbox hg; have hnb41 := NB480_474.out; have hnc41 := NB474_480.out; have hcz42_0 : w40.cell? ⟨gb480, 0, none⟩ = some (.string (⟨#[]⟩ : ByteArray)) := (kC BK480.out 0).trans rfl; have hcz42_1 : w40.cell? ⟨gb480, 1, none⟩ = some (.int .u8 0) := (kC BK480.out 1).trans rfl; have hcz42_2 : w40.cell? ⟨gb480, 2, none⟩ = some (.int .i64 0) := (kC BK480.out 2).trans rfl; have hfz42_0 := kF BK480.out 0; have hfz42_1 := kF BK480.out 1; have hfz42_2 := kF BK480.out 2) | (go_at_call 110; (with_reducible refine (octroiref31_Name.calls k2 ((rd_T70 l0_3 x3_2).f0) true _ A23.out).mono ?_); rintro e w' ⟨rfl, ⟨nd, rfl⟩⟩; (try first | exact ⟨rfl, _, World.drewN_drewN _ _ _⟩ | exact ⟨rfl, _, Eq.trans (World.drewN_drewN _ _ _) (congrArg (World.drewN _) (Nat.add_assoc _ _ _))⟩)) | (go_at_call 108; (with_reducible refine (octroiref31_number.calls ((rd_T70 l0_3 x3_2).f2) true _ A37.out).mono ?_); rintro e w' ⟨rfl, ⟨nd, rfl⟩⟩; (try first | exact ⟨rfl, _, World.drewN_drewN _ _ _⟩ | exact ⟨rfl, _, Eq.trans (World.drewN_drewN _ _ _) (congrArg (World.drewN _) (Nat.add_assoc _ _ _))⟩)))
               repeat (go_quiet (first | ((with_reducible refine gate_dst (N := 4) rfl ?_); (try (refine gate_guard (by rfl) ?_; dsimp only)); refine box_event ?hg (N := 4) ?hd (cs := #[.string (⟨#[]⟩ : ByteArray), .int .u8 0, .int .i64 0]) (t := 70) ?hr ?_; (case hd => rfl); (case hg => rfl); (case hr => first | (go_simp; done) | (go_simp; rfl)); intro gb480 hg w40 hbox hb; have n0_ := A0m (blk_below (g := gb474) (o := .cells #[.int .i64 a0_0, .int .i64 a0_1, .string a0_2, .slice (some ad479) l0_3.length c0_3, .slice A0_4 l0_4.length c0_4] 25 (0, 0)) (by (with_reducible repeat (first | refine kN ?_ _ | refine kD ?_ | refine kA ?_ _)); exact BK474.out) hb); have n1_ := A0m (below_step (by repeat (first | (with_reducible first | exact HB.out | apply bA | apply bN | apply bD | refine bS ?_ GE474.out) | exact HB.out)) hb); have n2_ := A0m (hbox); have n3_ := A0m ((by rw [hg]; exact (below_size (by repeat (first | (with_reducible first | exact HB.out | apply bA | apply bN | apply bD | refine bS ?_ GE474.out) | exact HB.out))) : w.heap.size ≤ gb480)); have n4_ := A0m ((by rw [hg]; exact (below_size (by repeat (first | (with_reducible first | exact HB.out | apply bA | apply bN | apply bD | refine bS ?_ GE474.out) | exact HB.out))) : w.heap.size ≤ gb480)); have n5_ := A0m ((by rw [hg]; exact Nat.ne_of_lt (blk_lt (g := gb474) (o := .cells #[.int .i64 a0_0, .int .i64 a0_1, .string a0_2, .slice (some ad479) l0_3.length c0_3, .slice A0_4 l0_4.length c0_4] 25 (0, 0)) (by (with_reducible repeat (first | refine kN ?_ _ | refine kD ?_ | refine kA ?_ _)); exact BK474.out)) : gb474 ≠ gb480)); have n6_ := A0m ((by rw [hg]; exact Nat.ne_of_gt (blk_lt (g := gb474) (o := .cells #[.int .i64 a0_0, .int .i64 a0_1, .string a0_2, .slice (some ad479) l0_3.length c0_3, .slice A0_4 l0_4.length c0_4] 25 (0, 0)) (by (with_reducible repeat (first | refine kN ?_ _ | refine kD ?_ | refine kA ?_ _)); exact BK474.out)) : gb480 ≠ gb474)); clear BK474; clear HB; have BK474 := n0_; have HB := n1_; have BK480 := n2_; have GW480 := n3_; have GE480 := n4_; have NB474_480 := n5_; have NB480_474 := n6_; clear n0_ n1_ n2_ n3_ n4_ n5_ n6_; clear hb hbox hg; have hnb41 := NB480_474.out; have hnc41 := NB474_480.out; have hcz42_0 : w40.cell? ⟨gb480, 0, none⟩ = some (.string (⟨#[]⟩ : ByteArray)) := (kC BK480.out 0).trans rfl; have hcz42_1 : w40.cell? ⟨gb480, 1, none⟩ = some (.int .u8 0) := (kC BK480.out 1).trans rfl; have hcz42_2 : w40.cell? ⟨gb480, 2, none⟩ = some (.int .i64 0) := (kC BK480.out 2).trans rfl; have hfz42_0 := kF BK480.out 0; have hfz42_1 := kF BK480.out 1; have hfz42_2 := kF BK480.out 2) | (go_at_call 110; (with_reducible refine (octroiref31_Name.calls k2 ((rd_T70 l0_3 x3_2).f0) true _ A23.out).mono ?_); rintro e w' ⟨rfl, ⟨nd, rfl⟩⟩; (try first | exact ⟨rfl, _, World.drewN_drewN _ _ _⟩ | exact ⟨rfl, _, Eq.trans (World.drewN_drewN _ _ _) (congrArg (World.drewN _) (Nat.add_assoc _ _ _))⟩)) | (go_at_call 108; (with_reducible refine (octroiref31_number.calls ((rd_T70 l0_3 x3_2).f2) true _ A37.out).mono ?_); rintro e w' ⟨rfl, ⟨nd, rfl⟩⟩; (try first | exact ⟨rfl, _, World.drewN_drewN _ _ _⟩ | exact ⟨rfl, _, Eq.trans (World.drewN_drewN _ _ _) (congrArg (World.drewN _) (Nat.add_assoc _ _ _))⟩))); try go_wp2_with (first | ((with_reducible refine gate_dst (N := 4) rfl ?_); (try (refine gate_guard (by rfl) ?_; dsimp only)); refine box_event ?hg (N := 4) ?hd (cs := #[.string (⟨#[]⟩ : ByteArray), .int .u8 0, .int .i64 0]) (t := 70) ?hr ?_; (case hd => rfl); (case hg => rfl); (case hr => first | (go_simp; done) | (go_simp; rfl)); intro gb480 hg w40 hbox hb; have n0_ := A0m (blk_below (g := gb474) (o := .cells #[.int .i64 a0_0, .int .i64 a0_1, .string a0_2, .slice (some ad479) l0_3.length c0_3, .slice A0_4 l0_4.length c0_4] 25 (0, 0)) (by (with_reducible repeat (first | refine kN ?_ _ | refine kD ?_ | refine kA ?_ _)); exact BK474.out) hb); have n1_ := A0m (below_step (by repeat (first | (with_reducible first | exact HB.out | apply bA | apply bN | apply bD | refine bS ?_ GE474.out) | exact HB.out)) hb); have n2_ := A0m (hbox); have n3_ := A0m ((by rw [hg]; exact (below_size (by repeat (first | (with_reducible first | exact HB.out | apply bA | apply bN | apply bD | refine bS ?_ GE474.out) | exact HB.out))) : w.heap.size ≤ gb480)); have n4_ := A0m ((by rw [hg]; exact (below_size (by repeat (first | (with_reducible first | exact HB.out | apply bA | apply bN | apply bD | refine bS ?_ GE474.out) | exact HB.out))) : w.heap.size ≤ gb480)); have n5_ := A0m ((by rw [hg]; exact Nat.ne_of_lt (blk_lt (g := gb474) (o := .cells #[.int .i64 a0_0, .int .i64 a0_1, .string a0_2, .slice (some ad479) l0_3.length c0_3, .slice A0_4 l0_4.length c0_4] 25 (0, 0)) (by (with_reducible repeat (first | refine kN ?_ _ | refine kD ?_ | refine kA ?_ _)); exact BK474.out)) : gb474 ≠ gb480)); have n6_ := A0m ((by rw [hg]; exact Nat.ne_of_gt (blk_lt (g := gb474) (o := .cells #[.int .i64 a0_0, .int .i64 a0_1, .string a0_2, .slice (some ad479) l0_3.length c0_3, .slice A0_4 l0_4.length c0_4] 25 (0, 0)) (by (with_reducible repeat (first | refine kN ?_ _ | refine kD ?_ | refine kA ?_ _)); exact BK474.out)) : gb480 ≠ gb474)); clear BK474; clear HB; have BK474 := n0_; have HB := n1_; have BK480 := n2_; have GW480 := n3_; have GE480 := n4_; have NB474_480 := n5_; have NB480_474 := n6_; clear n0_ n1_ n2_ n3_ n4_ n5_ n6_; clear hb hbox hg; have hnb41 := NB480_474.out; have hnc41 := NB474_480.out; have hcz42_0 : w40.cell? ⟨gb480, 0, none⟩ = some (.string (⟨#[]⟩ : ByteArray)) := (kC BK480.out 0).trans rfl; have hcz42_1 : w40.cell? ⟨gb480, 1, none⟩ = some (.int .u8 0) := (kC BK480.out 1).trans rfl; have hcz42_2 : w40.cell? ⟨gb480, 2, none⟩ = some (.int .i64 0) := (kC BK480.out 2).trans rfl; have hfz42_0 := kF BK480.out 0; have hfz42_1 := kF BK480.out 1; have hfz42_2 := kF BK480.out 2) | (go_at_call 110; (with_reducible refine (octroiref31_Name.calls k2 ((rd_T70 l0_3 x3_2).f0) true _ A23.out).mono ?_); rintro e w' ⟨rfl, ⟨nd, rfl⟩⟩; (try first | exact ⟨rfl, _, World.drewN_drewN _ _ _⟩ | exact ⟨rfl, _, Eq.trans (World.drewN_drewN _ _ _) (congrArg (World.drewN _) (Nat.add_assoc _ _ _))⟩)) | (go_at_call 108; (with_reducible refine (octroiref31_number.calls ((rd_T70 l0_3 x3_2).f2) true _ A37.out).mono ?_); rintro e w' ⟨rfl, ⟨nd, rfl⟩⟩; (try first | exact ⟨rfl, _, World.drewN_drewN _ _ _⟩ | exact ⟨rfl, _, Eq.trans (World.drewN_drewN _ _ _) (congrArg (World.drewN _) (Nat.add_assoc _ _ _))⟩))))
               go_roundg k2
               case measure => have := HJ1.out; have := HK2.out; omega
               case rel => exact ⟨(wrap64 (x3_2 + 1)), (by first | rfl | (simp; done) | (simp [*]; done)), H', ⟨by have := HJ1.out; have := HK2.out; omega⟩, ⟨by (with_reducible repeat (first | refine kN ?_ _ | refine kD ?_ | refine kA ?_ _)); refine blk_far ?_ NB474_480.out _; (with_reducible repeat (first | refine kN ?_ _ | refine kD ?_ | refine kA ?_ _)); refine blk_far ?_ NB474_480.out _; (with_reducible repeat (first | refine kN ?_ _ | refine kD ?_ | refine kA ?_ _)); refine blk_far ?_ NB474_480.out _; (with_reducible repeat (first | refine kN ?_ _ | refine kD ?_ | refine kA ?_ _)); exact BK474.out⟩, ⟨by repeat (first | (with_reducible first | exact HB.out | apply bA | apply bN | apply bD | refine bS ?_ GE474.out | refine bS ?_ GE480.out) | exact HB.out)⟩⟩
              ·replace c38 := Bool.eq_false_iff.mpr c38
               subst c38
               have H1 : (some false) = some r := by rw [if_neg (show ¬ (false = true) by decide)] at H; exact H
               clear H
               have H := H1
               clear H1
               obtain rfl := Option.some.inj H
               have hcz43_0 : wr.cell? ⟨gb474, 0, none⟩ = some (.int .i64 a0_0) := (kC BK474.out 0).trans rfl
               have hcz43_1 : wr.cell? ⟨gb474, 1, none⟩ = some (.int .i64 a0_1) := (kC BK474.out 1).trans rfl
               have hcz43_2 : wr.cell? ⟨gb474, 2, none⟩ = some (.string a0_2) := (kC BK474.out 2).trans rfl
               have hcz43_3 : wr.cell? ⟨gb474, 3, none⟩ = some (.slice A0_3 l0_3.length c0_3) := (kC BK474.out 3).trans rfl
               have hcz43_4 : wr.cell? ⟨gb474, 4, none⟩ = some (.slice A0_4 l0_4.length c0_4) := (kC BK474.out 4).trans rfl
               have hfz43_0 := kF BK474.out 0
               have hfz43_1 := kF BK474.out 1
               have hfz43_2 := kF BK474.out 2
               have hfz43_3 := kF BK474.out 3
               have hfz43_4 := kF BK474.out 4
               have p479 : 0 ≤ (x3_2 : Int) := dT (by first | (with_reducible assumption) | assumption)
               have q479 : x3_2 < (l0_3.length : Int) := dT (by first | (with_reducible assumption) | assumption)
               obtain ⟨ad479, e479, hx479_0, hx479_1, hx479_2⟩ := at_T70 HR0_3.out x3_2 p479 q479
               cases e479
               replace hx479_0 := (HB.out.cell (wL w _ hx479_0)).trans hx479_0
               replace hx479_1 := (HB.out.cell (wL w _ hx479_1)).trans hx479_1
               replace hx479_2 := (HB.out.cell (wL w _ hx479_2)).trans hx479_2
               replace p479 := eq_true p479
               replace q479 := eq_true q479
               go_wp2_with (first | ((with_reducible refine gate_dst (N := 4) rfl ?_); (try (refine gate_guard (by rfl) ?_; dsimp only)); refine box_event ?hg (N := 4) ?hd (cs := #[.string (⟨#[]⟩ : ByteArray), .int .u8 0, .int .i64 0]) (t := 70) ?hr ?_; (case hd => rfl); (case hg => rfl); (case hr => first | (go_simp; done) | (go_simp; rfl)); intro gb480 hg w44 hbox hb; have n0_ := A0m (blk_below (g := gb474) (o := .cells #[.int .i64 a0_0, .int .i64 a0_1, .string a0_2, .slice (some ad479) l0_3.length c0_3, .slice A0_4 l0_4.length c0_4] 25 (0, 0)) (by (with_reducible repeat (first | refine kN ?_ _ | refine kD ?_ | refine kA ?_ _)); exact BK474.out) hb); have n1_ := A0m (below_step (by repeat (first | (with_reducible first | exact HB.out | apply bA | apply bN | apply bD | refine bS ?_ GE474.out) | exact HB.out)) hb); have n2_ := A0m (hbox); have n3_ := A0m ((by rw [hg]; exact (below_size (by repeat (first | (with_reducible first | exact HB.out | apply bA | apply bN | apply bD | refine bS ?_ GE474.out) | exact HB.out))) : w.heap.size ≤ gb480)); have n4_ := A0m ((by rw [hg]; exact (below_size (by repeat (first | (with_reducible first | exact HB.out | apply bA | apply bN | apply bD | refine bS ?_ GE474.out) | exact HB.out))) : w.heap.size ≤ gb480)); have n5_ := A0m ((by rw [hg]; exact Nat.ne_of_lt (blk_lt (g := gb474) (o := .cells #[.int .i64 a0_0, .int .i64 a0_1, .string a0_2, .slice (some ad479) l0_3.length c0_3, .slice A0_4 l0_4.length c0_4] 25 (0, 0)) (by (with_reducible repeat (first | refine kN ?_ _ | refine kD ?_ | refine kA ?_ _)); exact BK474.out)) : gb474 ≠ gb480)); have n6_ := A0m ((by rw [hg]; exact Nat.ne_of_gt (blk_lt (g := gb474) (o := .cells #[.int .i64 a0_0, .int .i64 a0_1, .string a0_2, .slice (some ad479) l0_3.length c0_3, .slice A0_4 l0_4.length c0_4] 25 (0, 0)) (by (with_reducible repeat (first | refine kN ?_ _ | refine kD ?_ | refine kA ?_ _)); exact BK474.out)) : gb480 ≠ gb474)); clear BK474; clear HB; have BK474 := n0_; have HB := n1_; have BK480 := n2_; have GW480 := n3_; have GE480 := n4_; have NB474_480 := n5_; have NB480_474 := n6_; clear n0_ n1_ n2_ n3_ n4_ n5_ n6_; clear hb hbox hg; have hnb45 := NB480_474.out; have hnc45 := NB474_480.out; have hcz46_0 : w44.cell? ⟨gb480, 0, none⟩ = some (.string (⟨#[]⟩ : ByteArray)) := (kC BK480.out 0).trans rfl; have hcz46_1 : w44.cell? ⟨gb480, 1, none⟩ = some (.int .u8 0) := (kC BK480.out 1).trans rfl; have hcz46_2 : w44.cell? ⟨gb480, 2, none⟩ = some (.int .i64 0) := (kC BK480.out 2).trans rfl; have hfz46_0 := kF BK480.out 0; have hfz46_1 := kF BK480.out 1; have hfz46_2 := kF BK480.out 2) | (go_at_call 110; (with_reducible refine (octroiref31_Name.calls k2 ((rd_T70 l0_3 x3_2).f0) true _ A23.out).mono ?_); rintro e w' ⟨rfl, ⟨nd, rfl⟩⟩; (try first | exact ⟨rfl, _, World.drewN_drewN _ _ _⟩ | exact ⟨rfl, _, Eq.trans (World.drewN_drewN _ _ _) (congrArg (World.drewN _) (Nat.add_assoc _ _ _))⟩)) | (go_at_call 108; (with_reducible refine (octroiref31_number.calls ((rd_T70 l0_3 x3_2).f2) false _ A37.out).mono ?_); rintro e w' ⟨rfl, ⟨nd, rfl⟩⟩; (try first | exact ⟨rfl, _, World.drewN_drewN _ _ _⟩ | exact ⟨rfl, _, Eq.trans (World.drewN_drewN _ _ _) (congrArg (World.drewN _) (Nat.add_assoc _ _ _))⟩)))
               repeat (go_quiet (first | ((with_reducible refine gate_dst (N := 4) rfl ?_); (try (refine gate_guard (by rfl) ?_; dsimp only)); refine box_event ?hg (N := 4) ?hd (cs := #[.string (⟨#[]⟩ : ByteArray), .int .u8 0, .int .i64 0]) (t := 70) ?hr ?_; (case hd => rfl); (case hg => rfl); (case hr => first | (go_simp; done) | (go_simp; rfl)); intro gb480 hg w44 hbox hb; have n0_ := A0m (blk_below (g := gb474) (o := .cells #[.int .i64 a0_0, .int .i64 a0_1, .string a0_2, .slice (some ad479) l0_3.length c0_3, .slice A0_4 l0_4.length c0_4] 25 (0, 0)) (by (with_reducible repeat (first | refine kN ?_ _ | refine kD ?_ | refine kA ?_ _)); exact BK474.out) hb); have n1_ := A0m (below_step (by repeat (first | (with_reducible first | exact HB.out | apply bA | apply bN | apply bD | refine bS ?_ GE474.out) | exact HB.out)) hb); have n2_ := A0m (hbox); have n3_ := A0m ((by rw [hg]; exact (below_size (by repeat (first | (with_reducible first | exact HB.out | apply bA | apply bN | apply bD | refine bS ?_ GE474.out) | exact HB.out))) : w.heap.size ≤ gb480)); have n4_ := A0m ((by rw [hg]; exact (below_size (by repeat (first | (with_reducible first | exact HB.out | apply bA | apply bN | apply bD | refine bS ?_ GE474.out) | exact HB.out))) : w.heap.size ≤ gb480)); have n5_ := A0m ((by rw [hg]; exact Nat.ne_of_lt (blk_lt (g := gb474) (o := .cells #[.int .i64 a0_0, .int .i64 a0_1, .string a0_2, .slice (some ad479) l0_3.length c0_3, .slice A0_4 l0_4.length c0_4] 25 (0, 0)) (by (with_reducible repeat (first | refine kN ?_ _ | refine kD ?_ | refine kA ?_ _)); exact BK474.out)) : gb474 ≠ gb480)); have n6_ := A0m ((by rw [hg]; exact Nat.ne_of_gt (blk_lt (g := gb474) (o := .cells #[.int .i64 a0_0, .int .i64 a0_1, .string a0_2, .slice (some ad479) l0_3.length c0_3, .slice A0_4 l0_4.length c0_4] 25 (0, 0)) (by (with_reducible repeat (first | refine kN ?_ _ | refine kD ?_ | refine kA ?_ _)); exact BK474.out)) : gb480 ≠ gb474)); clear BK474; clear HB; have BK474 := n0_; have HB := n1_; have BK480 := n2_; have GW480 := n3_; have GE480 := n4_; have NB474_480 := n5_; have NB480_474 := n6_; clear n0_ n1_ n2_ n3_ n4_ n5_ n6_; clear hb hbox hg; have hnb45 := NB480_474.out; have hnc45 := NB474_480.out; have hcz46_0 : w44.cell? ⟨gb480, 0, none⟩ = some (.string (⟨#[]⟩ : ByteArray)) := (kC BK480.out 0).trans rfl; have hcz46_1 : w44.cell? ⟨gb480, 1, none⟩ = some (.int .u8 0) := (kC BK480.out 1).trans rfl; have hcz46_2 : w44.cell? ⟨gb480, 2, none⟩ = some (.int .i64 0) := (kC BK480.out 2).trans rfl; have hfz46_0 := kF BK480.out 0; have hfz46_1 := kF BK480.out 1; have hfz46_2 := kF BK480.out 2) | (go_at_call 110; (with_reducible refine (octroiref31_Name.calls k2 ((rd_T70 l0_3 x3_2).f0) true _ A23.out).mono ?_); rintro e w' ⟨rfl, ⟨nd, rfl⟩⟩; (try first | exact ⟨rfl, _, World.drewN_drewN _ _ _⟩ | exact ⟨rfl, _, Eq.trans (World.drewN_drewN _ _ _) (congrArg (World.drewN _) (Nat.add_assoc _ _ _))⟩)) | (go_at_call 108; (with_reducible refine (octroiref31_number.calls ((rd_T70 l0_3 x3_2).f2) false _ A37.out).mono ?_); rintro e w' ⟨rfl, ⟨nd, rfl⟩⟩; (try first | exact ⟨rfl, _, World.drewN_drewN _ _ _⟩ | exact ⟨rfl, _, Eq.trans (World.drewN_drewN _ _ _) (congrArg (World.drewN _) (Nat.add_assoc _ _ _))⟩))); try go_wp2_with (first | ((with_reducible refine gate_dst (N := 4) rfl ?_); (try (refine gate_guard (by rfl) ?_; dsimp only)); refine box_event ?hg (N := 4) ?hd (cs := #[.string (⟨#[]⟩ : ByteArray), .int .u8 0, .int .i64 0]) (t := 70) ?hr ?_; (case hd => rfl); (case hg => rfl); (case hr => first | (go_simp; done) | (go_simp; rfl)); intro gb480 hg w44 hbox hb; have n0_ := A0m (blk_below (g := gb474) (o := .cells #[.int .i64 a0_0, .int .i64 a0_1, .string a0_2, .slice (some ad479) l0_3.length c0_3, .slice A0_4 l0_4.length c0_4] 25 (0, 0)) (by (with_reducible repeat (first | refine kN ?_ _ | refine kD ?_ | refine kA ?_ _)); exact BK474.out) hb); have n1_ := A0m (below_step (by repeat (first | (with_reducible first | exact HB.out | apply bA | apply bN | apply bD | refine bS ?_ GE474.out) | exact HB.out)) hb); have n2_ := A0m (hbox); have n3_ := A0m ((by rw [hg]; exact (below_size (by repeat (first | (with_reducible first | exact HB.out | apply bA | apply bN | apply bD | refine bS ?_ GE474.out) | exact HB.out))) : w.heap.size ≤ gb480)); have n4_ := A0m ((by rw [hg]; exact (below_size (by repeat (first | (with_reducible first | exact HB.out | apply bA | apply bN | apply bD | refine bS ?_ GE474.out) | exact HB.out))) : w.heap.size ≤ gb480)); have n5_ := A0m ((by rw [hg]; exact Nat.ne_of_lt (blk_lt (g := gb474) (o := .cells #[.int .i64 a0_0, .int .i64 a0_1, .string a0_2, .slice (some ad479) l0_3.length c0_3, .slice A0_4 l0_4.length c0_4] 25 (0, 0)) (by (with_reducible repeat (first | refine kN ?_ _ | refine kD ?_ | refine kA ?_ _)); exact BK474.out)) : gb474 ≠ gb480)); have n6_ := A0m ((by rw [hg]; exact Nat.ne_of_gt (blk_lt (g := gb474) (o := .cells #[.int .i64 a0_0, .int .i64 a0_1, .string a0_2, .slice (some ad479) l0_3.length c0_3, .slice A0_4 l0_4.length c0_4] 25 (0, 0)) (by (with_reducible repeat (first | refine kN ?_ _ | refine kD ?_ | refine kA ?_ _)); exact BK474.out)) : gb480 ≠ gb474)); clear BK474; clear HB; have BK474 := n0_; have HB := n1_; have BK480 := n2_; have GW480 := n3_; have GE480 := n4_; have NB474_480 := n5_; have NB480_474 := n6_; clear n0_ n1_ n2_ n3_ n4_ n5_ n6_; clear hb hbox hg; have hnb45 := NB480_474.out; have hnc45 := NB474_480.out; have hcz46_0 : w44.cell? ⟨gb480, 0, none⟩ = some (.string (⟨#[]⟩ : ByteArray)) := (kC BK480.out 0).trans rfl; have hcz46_1 : w44.cell? ⟨gb480, 1, none⟩ = some (.int .u8 0) := (kC BK480.out 1).trans rfl; have hcz46_2 : w44.cell? ⟨gb480, 2, none⟩ = some (.int .i64 0) := (kC BK480.out 2).trans rfl; have hfz46_0 := kF BK480.out 0; have hfz46_1 := kF BK480.out 1; have hfz46_2 := kF BK480.out 2) | (go_at_call 110; (with_reducible refine (octroiref31_Name.calls k2 ((rd_T70 l0_3 x3_2).f0) true _ A23.out).mono ?_); rintro e w' ⟨rfl, ⟨nd, rfl⟩⟩; (try first | exact ⟨rfl, _, World.drewN_drewN _ _ _⟩ | exact ⟨rfl, _, Eq.trans (World.drewN_drewN _ _ _) (congrArg (World.drewN _) (Nat.add_assoc _ _ _))⟩)) | (go_at_call 108; (with_reducible refine (octroiref31_number.calls ((rd_T70 l0_3 x3_2).f2) false _ A37.out).mono ?_); rintro e w' ⟨rfl, ⟨nd, rfl⟩⟩; (try first | exact ⟨rfl, _, World.drewN_drewN _ _ _⟩ | exact ⟨rfl, _, Eq.trans (World.drewN_drewN _ _ _) (congrArg (World.drewN _) (Nat.add_assoc _ _ _))⟩))))
               go_ret
               exact ⟨by first | rfl | (simp [errW_none, errW_some] <;> rfl) | (simp [*, errW_none, errW_some] <;> rfl), by repeat (first | (with_reducible first | exact HB.out | apply bA | apply bN | apply bD | refine bS ?_ GE474.out | refine bS ?_ GE480.out) | exact HB.out)⟩
             ·rw [if_neg c36] at H
              have c36b0 : (((rd_T70 l0_3 x3_2).f1) == 60) = false := beq_eq_false_iff_ne.mpr c36
              have c36b1 : (((rd_T70 l0_3 x3_2).f1) != 60) = true := bne_iff_ne.mpr c36
              by_cases c47 : ((rd_T70 l0_3 x3_2).f1) = 62
              ·rw [if_pos c47] at H
               have c47b0 : (((rd_T70 l0_3 x3_2).f1) == 62) = true := beq_iff_eq.mpr c47
               have c47b1 : (((rd_T70 l0_3 x3_2).f1) != 62) = false := bne_eq_false_iff_eq.mpr c47
               clear c47
               replace H := Option.bind_eq_some_iff.mp H
               obtain ⟨t484, A480, H⟩ := H
               replace H : (if t484 = true then (octroiref31_right.l0 k2 (wrap64 (x3_2 + 1)) a0_0 a0_1 a0_2 l0_3 l0_4) else (some false)) = some r := H
               have A48 := A0m A480
               clear A480
               by_cases c49 : t484 = true
               ·subst c49
                have H1 : (octroiref31_right.l0 k2 (wrap64 (x3_2 + 1)) a0_0 a0_1 a0_2 l0_3 l0_4) = some r := by rw [if_pos rfl] at H; exact H
                clear H
                have H := H1
                clear H1
                have H' := A0m H
                clear H
                have hcz50_0 : wr.cell? ⟨gb474, 0, none⟩ = some (.int .i64 a0_0) := (kC BK474.out 0).trans rfl
                have hcz50_1 : wr.cell? ⟨gb474, 1, none⟩ = some (.int .i64 a0_1) := (kC BK474.out 1).trans rfl
                have hcz50_2 : wr.cell? ⟨gb474, 2, none⟩ = some (.string a0_2) := (kC BK474.out 2).trans rfl
                have hcz50_3 : wr.cell? ⟨gb474, 3, none⟩ = some (.slice A0_3 l0_3.length c0_3) := (kC BK474.out 3).trans rfl
                have hcz50_4 : wr.cell? ⟨gb474, 4, none⟩ = some (.slice A0_4 l0_4.length c0_4) := (kC BK474.out 4).trans rfl
                have hfz50_0 := kF BK474.out 0
                have hfz50_1 := kF BK474.out 1
                have hfz50_2 := kF BK474.out 2
                have hfz50_3 := kF BK474.out 3
                have hfz50_4 := kF BK474.out 4
                have p479 : 0 ≤ (x3_2 : Int) := dT (by first | (with_reducible assumption) | assumption)
                have q479 : x3_2 < (l0_3.length : Int) := dT (by first | (with_reducible assumption) | assumption)
                obtain ⟨ad479, e479, hx479_0, hx479_1, hx479_2⟩ := at_T70 HR0_3.out x3_2 p479 q479
                cases e479
                replace hx479_0 := (HB.out.cell (wL w _ hx479_0)).trans hx479_0
                replace hx479_1 := (HB.out.cell (wL w _ hx479_1)).trans hx479_1
                replace hx479_2 := (HB.out.cell (wL w _ hx479_2)).trans hx479_2
                replace p479 := eq_true p479
                replace q479 := eq_true q479
                go_wp2_with (first | ((with_reducible refine gate_dst (N := 4) rfl ?_); (try (refine gate_guard (by rfl) ?_; dsimp only)); refine box_event ?hg (N := 4) ?hd (cs := #[.string (⟨#[]⟩ : ByteArray), .int .u8 0, .int .i64 0]) (t := 70) ?hr ?_; (case hd => rfl); (case hg => rfl); (case hr => first | (go_simp; done) | (go_simp; rfl)); intro gb480 hg w51 hbox hb; have n0_ := A0m (blk_below (g := gb474) (o := .cells #[.int .i64 a0_0, .int .i64 a0_1, .string a0_2, .slice (some ad479) l0_3.length c0_3, .slice A0_4 l0_4.length c0_4] 25 (0, 0)) (by (with_reducible repeat (first | refine kN ?_ _ | refine kD ?_ | refine kA ?_ _)); exact BK474.out) hb); have n1_ := A0m (below_step (by repeat (first | (with_reducible first | exact HB.out | apply bA | apply bN | apply bD | refine bS ?_ GE474.out) | exact HB.out)) hb); have n2_ := A0m (hbox); have n3_ := A0m ((by rw [hg]; exact (below_size (by repeat (first | (with_reducible first | exact HB.out | apply bA | apply bN | apply bD | refine bS ?_ GE474.out) | exact HB.out))) : w.heap.size ≤ gb480)); have n4_ := A0m ((by rw [hg]; exact (below_size (by repeat (first | (with_reducible first | exact HB.out | apply bA | apply bN | apply bD | refine bS ?_ GE474.out) | exact HB.out))) : w.heap.size ≤ gb480)); have n5_ := A0m ((by rw [hg]; exact Nat.ne_of_lt (blk_lt (g := gb474) (o := .cells #[.int .i64 a0_0, .int .i64 a0_1, .string a0_2, .slice (some ad479) l0_3.length c0_3, .slice A0_4 l0_4.length c0_4] 25 (0, 0)) (by (with_reducible repeat (first | refine kN ?_ _ | refine kD ?_ | refine kA ?_ _)); exact BK474.out)) : gb474 ≠ gb480)); have n6_ := A0m ((by rw [hg]; exact Nat.ne_of_gt (blk_lt (g := gb474) (o := .cells #[.int .i64 a0_0, .int .i64 a0_1, .string a0_2, .slice (some ad479) l0_3.length c0_3, .slice A0_4 l0_4.length c0_4] 25 (0, 0)) (by (with_reducible repeat (first | refine kN ?_ _ | refine kD ?_ | refine kA ?_ _)); exact BK474.out)) : gb480 ≠ gb474)); clear BK474; clear HB; have BK474 := n0_; have HB := n1_; have BK480 := n2_; have GW480 := n3_; have GE480 := n4_; have NB474_480 := n5_; have NB480_474 := n6_; clear n0_ n1_ n2_ n3_ n4_ n5_ n6_; clear hb hbox hg; have hnb52 := NB480_474.out; have hnc52 := NB474_480.out; have hcz53_0 : w51.cell? ⟨gb480, 0, none⟩ = some (.string (⟨#[]⟩ : ByteArray)) := (kC BK480.out 0).trans rfl; have hcz53_1 : w51.cell? ⟨gb480, 1, none⟩ = some (.int .u8 0) := (kC BK480.out 1).trans rfl; have hcz53_2 : w51.cell? ⟨gb480, 2, none⟩ = some (.int .i64 0) := (kC BK480.out 2).trans rfl; have hfz53_0 := kF BK480.out 0; have hfz53_1 := kF BK480.out 1; have hfz53_2 := kF BK480.out 2) | (go_at_call 110; (with_reducible refine (octroiref31_Name.calls k2 ((rd_T70 l0_3 x3_2).f0) true _ A23.out).mono ?_); rintro e w' ⟨rfl, ⟨nd, rfl⟩⟩; (try first | exact ⟨rfl, _, World.drewN_drewN _ _ _⟩ | exact ⟨rfl, _, Eq.trans (World.drewN_drewN _ _ _) (congrArg (World.drewN _) (Nat.add_assoc _ _ _))⟩)) | (go_at_call 108; (with_reducible refine (octroiref31_number.calls ((rd_T70 l0_3 x3_2).f2) true _ A48.out).mono ?_); rintro e w' ⟨rfl, ⟨nd, rfl⟩⟩; (try first | exact ⟨rfl, _, World.drewN_drewN _ _ _⟩ | exact ⟨rfl, _, Eq.trans (World.drewN_drewN _ _ _) (congrArg (World.drewN _) (Nat.add_assoc _ _ _))⟩)))
                repeat (go_quiet (first | ((with_reducible refine gate_dst (N := 4) rfl ?_); (try (refine gate_guard (by rfl) ?_; dsimp only)); refine box_event ?hg (N := 4) ?hd (cs := #[.string (⟨#[]⟩ : ByteArray), .int .u8 0, .int .i64 0]) (t := 70) ?hr ?_; (case hd => rfl); (case hg => rfl); (case hr => first | (go_simp; done) | (go_simp; rfl)); intro gb480 hg w51 hbox hb; have n0_ := A0m (blk_below (g := gb474) (o := .cells #[.int .i64 a0_0, .int .i64 a0_1, .string a0_2, .slice (some ad479) l0_3.length c0_3, .slice A0_4 l0_4.length c0_4] 25 (0, 0)) (by (with_reducible repeat (first | refine kN ?_ _ | refine kD ?_ | refine kA ?_ _)); exact BK474.out) hb); have n1_ := A0m (below_step (by repeat (first | (with_reducible first | exact HB.out | apply bA | apply bN | apply bD | refine bS ?_ GE474.out) | exact HB.out)) hb); have n2_ := A0m (hbox); have n3_ := A0m ((by rw [hg]; exact (below_size (by repeat (first | (with_reducible first | exact HB.out | apply bA | apply bN | apply bD | refine bS ?_ GE474.out) | exact HB.out))) : w.heap.size ≤ gb480)); have n4_ := A0m ((by rw [hg]; exact (below_size (by repeat (first | (with_reducible first | exact HB.out | apply bA | apply bN | apply bD | refine bS ?_ GE474.out) | exact HB.out))) : w.heap.size ≤ gb480)); have n5_ := A0m ((by rw [hg]; exact Nat.ne_of_lt (blk_lt (g := gb474) (o := .cells #[.int .i64 a0_0, .int .i64 a0_1, .string a0_2, .slice (some ad479) l0_3.length c0_3, .slice A0_4 l0_4.length c0_4] 25 (0, 0)) (by (with_reducible repeat (first | refine kN ?_ _ | refine kD ?_ | refine kA ?_ _)); exact BK474.out)) : gb474 ≠ gb480)); have n6_ := A0m ((by rw [hg]; exact Nat.ne_of_gt (blk_lt (g := gb474) (o := .cells #[.int .i64 a0_0, .int .i64 a0_1, .string a0_2, .slice (some ad479) l0_3.length c0_3, .slice A0_4 l0_4.length c0_4] 25 (0, 0)) (by (with_reducible repeat (first | refine kN ?_ _ | refine kD ?_ | refine kA ?_ _)); exact BK474.out)) : gb480 ≠ gb474)); clear BK474; clear HB; have BK474 := n0_; have HB := n1_; have BK480 := n2_; have GW480 := n3_; have GE480 := n4_; have NB474_480 := n5_; have NB480_474 := n6_; clear n0_ n1_ n2_ n3_ n4_ n5_ n6_; clear hb hbox hg; have hnb52 := NB480_474.out; have hnc52 := NB474_480.out; have hcz53_0 : w51.cell? ⟨gb480, 0, none⟩ = some (.string (⟨#[]⟩ : ByteArray)) := (kC BK480.out 0).trans rfl; have hcz53_1 : w51.cell? ⟨gb480, 1, none⟩ = some (.int .u8 0) := (kC BK480.out 1).trans rfl; have hcz53_2 : w51.cell? ⟨gb480, 2, none⟩ = some (.int .i64 0) := (kC BK480.out 2).trans rfl; have hfz53_0 := kF BK480.out 0; have hfz53_1 := kF BK480.out 1; have hfz53_2 := kF BK480.out 2) | (go_at_call 110; (with_reducible refine (octroiref31_Name.calls k2 ((rd_T70 l0_3 x3_2).f0) true _ A23.out).mono ?_); rintro e w' ⟨rfl, ⟨nd, rfl⟩⟩; (try first | exact ⟨rfl, _, World.drewN_drewN _ _ _⟩ | exact ⟨rfl, _, Eq.trans (World.drewN_drewN _ _ _) (congrArg (World.drewN _) (Nat.add_assoc _ _ _))⟩)) | (go_at_call 108; (with_reducible refine (octroiref31_number.calls ((rd_T70 l0_3 x3_2).f2) true _ A48.out).mono ?_); rintro e w' ⟨rfl, ⟨nd, rfl⟩⟩; (try first | exact ⟨rfl, _, World.drewN_drewN _ _ _⟩ | exact ⟨rfl, _, Eq.trans (World.drewN_drewN _ _ _) (congrArg (World.drewN _) (Nat.add_assoc _ _ _))⟩))); try go_wp2_with (first | ((with_reducible refine gate_dst (N := 4) rfl ?_); (try (refine gate_guard (by rfl) ?_; dsimp only)); refine box_event ?hg (N := 4) ?hd (cs := #[.string (⟨#[]⟩ : ByteArray), .int .u8 0, .int .i64 0]) (t := 70) ?hr ?_; (case hd => rfl); (case hg => rfl); (case hr => first | (go_simp; done) | (go_simp; rfl)); intro gb480 hg w51 hbox hb; have n0_ := A0m (blk_below (g := gb474) (o := .cells #[.int .i64 a0_0, .int .i64 a0_1, .string a0_2, .slice (some ad479) l0_3.length c0_3, .slice A0_4 l0_4.length c0_4] 25 (0, 0)) (by (with_reducible repeat (first | refine kN ?_ _ | refine kD ?_ | refine kA ?_ _)); exact BK474.out) hb); have n1_ := A0m (below_step (by repeat (first | (with_reducible first | exact HB.out | apply bA | apply bN | apply bD | refine bS ?_ GE474.out) | exact HB.out)) hb); have n2_ := A0m (hbox); have n3_ := A0m ((by rw [hg]; exact (below_size (by repeat (first | (with_reducible first | exact HB.out | apply bA | apply bN | apply bD | refine bS ?_ GE474.out) | exact HB.out))) : w.heap.size ≤ gb480)); have n4_ := A0m ((by rw [hg]; exact (below_size (by repeat (first | (with_reducible first | exact HB.out | apply bA | apply bN | apply bD | refine bS ?_ GE474.out) | exact HB.out))) : w.heap.size ≤ gb480)); have n5_ := A0m ((by rw [hg]; exact Nat.ne_of_lt (blk_lt (g := gb474) (o := .cells #[.int .i64 a0_0, .int .i64 a0_1, .string a0_2, .slice (some ad479) l0_3.length c0_3, .slice A0_4 l0_4.length c0_4] 25 (0, 0)) (by (with_reducible repeat (first | refine kN ?_ _ | refine kD ?_ | refine kA ?_ _)); exact BK474.out)) : gb474 ≠ gb480)); have n6_ := A0m ((by rw [hg]; exact Nat.ne_of_gt (blk_lt (g := gb474) (o := .cells #[.int .i64 a0_0, .int .i64 a0_1, .string a0_2, .slice (some ad479) l0_3.length c0_3, .slice A0_4 l0_4.length c0_4] 25 (0, 0)) (by (with_reducible repeat (first | refine kN ?_ _ | refine kD ?_ | refine kA ?_ _)); exact BK474.out)) : gb480 ≠ gb474)); clear BK474; clear HB; have BK474 := n0_; have HB := n1_; have BK480 := n2_; have GW480 := n3_; have GE480 := n4_; have NB474_480 := n5_; have NB480_474 := n6_; clear n0_ n1_ n2_ n3_ n4_ n5_ n6_; clear hb hbox hg; have hnb52 := NB480_474.out; have hnc52 := NB474_480.out; have hcz53_0 : w51.cell? ⟨gb480, 0, none⟩ = some (.string (⟨#[]⟩ : ByteArray)) := (kC BK480.out 0).trans rfl; have hcz53_1 : w51.cell? ⟨gb480, 1, none⟩ = some (.int .u8 0) := (kC BK480.out 1).trans rfl; have hcz53_2 : w51.cell? ⟨gb480, 2, none⟩ = some (.int .i64 0) := (kC BK480.out 2).trans rfl; have hfz53_0 := kF BK480.out 0; have hfz53_1 := kF BK480.out 1; have hfz53_2 := kF BK480.out 2) | (go_at_call 110; (with_reducible refine (octroiref31_Name.calls k2 ((rd_T70 l0_3 x3_2).f0) true _ A23.out).mono ?_); rintro e w' ⟨rfl, ⟨nd, rfl⟩⟩; (try first | exact ⟨rfl, _, World.drewN_drewN _ _ _⟩ | exact ⟨rfl, _, Eq.trans (World.drewN_drewN _ _ _) (congrArg (World.drewN _) (Nat.add_assoc _ _ _))⟩)) | (go_at_call 108; (with_reducible refine (octroiref31_number.calls ((rd_T70 l0_3 x3_2).f2) true _ A48.out).mono ?_); rintro e w' ⟨rfl, ⟨nd, rfl⟩⟩; (try first | exact ⟨rfl, _, World.drewN_drewN _ _ _⟩ | exact ⟨rfl, _, Eq.trans (World.drewN_drewN _ _ _) (congrArg (World.drewN _) (Nat.add_assoc _ _ _))⟩))))
                go_roundg k2
                case measure => have := HJ1.out; have := HK2.out; omega
                case rel => exact ⟨(wrap64 (x3_2 + 1)), (by first | rfl | (simp; done) | (simp [*]; done)), H', ⟨by have := HJ1.out; have := HK2.out; omega⟩, ⟨by (with_reducible repeat (first | refine kN ?_ _ | refine kD ?_ | refine kA ?_ _)); refine blk_far ?_ NB474_480.out _; (with_reducible repeat (first | refine kN ?_ _ | refine kD ?_ | refine kA ?_ _)); refine blk_far ?_ NB474_480.out _; (with_reducible repeat (first | refine kN ?_ _ | refine kD ?_ | refine kA ?_ _)); refine blk_far ?_ NB474_480.out _; (with_reducible repeat (first | refine kN ?_ _ | refine kD ?_ | refine kA ?_ _)); exact BK474.out⟩, ⟨by repeat (first | (with_reducible first | exact HB.out | apply bA | apply bN | apply bD | refine bS ?_ GE474.out | refine bS ?_ GE480.out) | exact HB.out)⟩⟩
               ·replace c49 := Bool.eq_false_iff.mpr c49
                subst c49
                have H1 : (some false) = some r := by rw [if_neg (show ¬ (false = true) by decide)] at H; exact H
                clear H
                have H := H1
                clear H1
                obtain rfl := Option.some.inj H
                have hcz54_0 : wr.cell? ⟨gb474, 0, none⟩ = some (.int .i64 a0_0) := (kC BK474.out 0).trans rfl
                have hcz54_1 : wr.cell? ⟨gb474, 1, none⟩ = some (.int .i64 a0_1) := (kC BK474.out 1).trans rfl
                have hcz54_2 : wr.cell? ⟨gb474, 2, none⟩ = some (.string a0_2) := (kC BK474.out 2).trans rfl
                have hcz54_3 : wr.cell? ⟨gb474, 3, none⟩ = some (.slice A0_3 l0_3.length c0_3) := (kC BK474.out 3).trans rfl
                have hcz54_4 : wr.cell? ⟨gb474, 4, none⟩ = some (.slice A0_4 l0_4.length c0_4) := (kC BK474.out 4).trans rfl
                have hfz54_0 := kF BK474.out 0
                have hfz54_1 := kF BK474.out 1
                have hfz54_2 := kF BK474.out 2
                have hfz54_3 := kF BK474.out 3
                have hfz54_4 := kF BK474.out 4
                have p479 : 0 ≤ (x3_2 : Int) := dT (by first | (with_reducible assumption) | assumption)
                have q479 : x3_2 < (l0_3.length : Int) := dT (by first | (with_reducible assumption) | assumption)
                obtain ⟨ad479, e479, hx479_0, hx479_1, hx479_2⟩ := at_T70 HR0_3.out x3_2 p479 q479
                cases e479
                replace hx479_0 := (HB.out.cell (wL w _ hx479_0)).trans hx479_0
                replace hx479_1 := (HB.out.cell (wL w _ hx479_1)).trans hx479_1
                replace hx479_2 := (HB.out.cell (wL w _ hx479_2)).trans hx479_2
                replace p479 := eq_true p479
                replace q479 := eq_true q479
                go_wp2_with (first | ((with_reducible refine gate_dst (N := 4) rfl ?_); (try (refine gate_guard (by rfl) ?_; dsimp only)); refine box_event ?hg (N := 4) ?hd (cs := #[.string (⟨#[]⟩ : ByteArray), .int .u8 0, .int .i64 0]) (t := 70) ?hr ?_; (case hd => rfl); (case hg => rfl); (case hr => first | (go_simp; done) | (go_simp; rfl)); intro gb480 hg w55 hbox hb; have n0_ := A0m (blk_below (g := gb474) (o := .cells #[.int .i64 a0_0, .int .i64 a0_1, .string a0_2, .slice (some ad479) l0_3.length c0_3, .slice A0_4 l0_4.length c0_4] 25 (0, 0)) (by (with_reducible repeat (first | refine kN ?_ _ | refine kD ?_ | refine kA ?_ _)); exact BK474.out) hb); have n1_ := A0m (below_step (by repeat (first | (with_reducible first | exact HB.out | apply bA | apply bN | apply bD | refine bS ?_ GE474.out) | exact HB.out)) hb); have n2_ := A0m (hbox); have n3_ := A0m ((by rw [hg]; exact (below_size (by repeat (first | (with_reducible first | exact HB.out | apply bA | apply bN | apply bD | refine bS ?_ GE474.out) | exact HB.out))) : w.heap.size ≤ gb480)); have n4_ := A0m ((by rw [hg]; exact (below_size (by repeat (first | (with_reducible first | exact HB.out | apply bA | apply bN | apply bD | refine bS ?_ GE474.out) | exact HB.out))) : w.heap.size ≤ gb480)); have n5_ := A0m ((by rw [hg]; exact Nat.ne_of_lt (blk_lt (g := gb474) (o := .cells #[.int .i64 a0_0, .int .i64 a0_1, .string a0_2, .slice (some ad479) l0_3.length c0_3, .slice A0_4 l0_4.length c0_4] 25 (0, 0)) (by (with_reducible repeat (first | refine kN ?_ _ | refine kD ?_ | refine kA ?_ _)); exact BK474.out)) : gb474 ≠ gb480)); have n6_ := A0m ((by rw [hg]; exact Nat.ne_of_gt (blk_lt (g := gb474) (o := .cells #[.int .i64 a0_0, .int .i64 a0_1, .string a0_2, .slice (some ad479) l0_3.length c0_3, .slice A0_4 l0_4.length c0_4] 25 (0, 0)) (by (with_reducible repeat (first | refine kN ?_ _ | refine kD ?_ | refine kA ?_ _)); exact BK474.out)) : gb480 ≠ gb474)); clear BK474; clear HB; have BK474 := n0_; have HB := n1_; have BK480 := n2_; have GW480 := n3_; have GE480 := n4_; have NB474_480 := n5_; have NB480_474 := n6_; clear n0_ n1_ n2_ n3_ n4_ n5_ n6_; clear hb hbox hg; have hnb56 := NB480_474.out; have hnc56 := NB474_480.out; have hcz57_0 : w55.cell? ⟨gb480, 0, none⟩ = some (.string (⟨#[]⟩ : ByteArray)) := (kC BK480.out 0).trans rfl; have hcz57_1 : w55.cell? ⟨gb480, 1, none⟩ = some (.int .u8 0) := (kC BK480.out 1).trans rfl; have hcz57_2 : w55.cell? ⟨gb480, 2, none⟩ = some (.int .i64 0) := (kC BK480.out 2).trans rfl; have hfz57_0 := kF BK480.out 0; have hfz57_1 := kF BK480.out 1; have hfz57_2 := kF BK480.out 2) | (go_at_call 110; (with_reducible refine (octroiref31_Name.calls k2 ((rd_T70 l0_3 x3_2).f0) true _ A23.out).mono ?_); rintro e w' ⟨rfl, ⟨nd, rfl⟩⟩; (try first | exact ⟨rfl, _, World.drewN_drewN _ _ _⟩ | exact ⟨rfl, _, Eq.trans (World.drewN_drewN _ _ _) (congrArg (World.drewN _) (Nat.add_assoc _ _ _))⟩)) | (go_at_call 108; (with_reducible refine (octroiref31_number.calls ((rd_T70 l0_3 x3_2).f2) false _ A48.out).mono ?_); rintro e w' ⟨rfl, ⟨nd, rfl⟩⟩; (try first | exact ⟨rfl, _, World.drewN_drewN _ _ _⟩ | exact ⟨rfl, _, Eq.trans (World.drewN_drewN _ _ _) (congrArg (World.drewN _) (Nat.add_assoc _ _ _))⟩)))
                repeat (go_quiet (first | ((with_reducible refine gate_dst (N := 4) rfl ?_); (try (refine gate_guard (by rfl) ?_; dsimp only)); refine box_event ?hg (N := 4) ?hd (cs := #[.string (⟨#[]⟩ : ByteArray), .int .u8 0, .int .i64 0]) (t := 70) ?hr ?_; (case hd => rfl); (case hg => rfl); (case hr => first | (go_simp; done) | (go_simp; rfl)); intro gb480 hg w55 hbox hb; have n0_ := A0m (blk_below (g := gb474) (o := .cells #[.int .i64 a0_0, .int .i64 a0_1, .string a0_2, .slice (some ad479) l0_3.length c0_3, .slice A0_4 l0_4.length c0_4] 25 (0, 0)) (by (with_reducible repeat (first | refine kN ?_ _ | refine kD ?_ | refine kA ?_ _)); exact BK474.out) hb); have n1_ := A0m (below_step (by repeat (first | (with_reducible first | exact HB.out | apply bA | apply bN | apply bD | refine bS ?_ GE474.out) | exact HB.out)) hb); have n2_ := A0m (hbox); have n3_ := A0m ((by rw [hg]; exact (below_size (by repeat (first | (with_reducible first | exact HB.out | apply bA | apply bN | apply bD | refine bS ?_ GE474.out) | exact HB.out))) : w.heap.size ≤ gb480)); have n4_ := A0m ((by rw [hg]; exact (below_size (by repeat (first | (with_reducible first | exact HB.out | apply bA | apply bN | apply bD | refine bS ?_ GE474.out) | exact HB.out))) : w.heap.size ≤ gb480)); have n5_ := A0m ((by rw [hg]; exact Nat.ne_of_lt (blk_lt (g := gb474) (o := .cells #[.int .i64 a0_0, .int .i64 a0_1, .string a0_2, .slice (some ad479) l0_3.length c0_3, .slice A0_4 l0_4.length c0_4] 25 (0, 0)) (by (with_reducible repeat (first | refine kN ?_ _ | refine kD ?_ | refine kA ?_ _)); exact BK474.out)) : gb474 ≠ gb480)); have n6_ := A0m ((by rw [hg]; exact Nat.ne_of_gt (blk_lt (g := gb474) (o := .cells #[.int .i64 a0_0, .int .i64 a0_1, .string a0_2, .slice (some ad479) l0_3.length c0_3, .slice A0_4 l0_4.length c0_4] 25 (0, 0)) (by (with_reducible repeat (first | refine kN ?_ _ | refine kD ?_ | refine kA ?_ _)); exact BK474.out)) : gb480 ≠ gb474)); clear BK474; clear HB; have BK474 := n0_; have HB := n1_; have BK480 := n2_; have GW480 := n3_; have GE480 := n4_; have NB474_480 := n5_; have NB480_474 := n6_; clear n0_ n1_ n2_ n3_ n4_ n5_ n6_; clear hb hbox hg; have hnb56 := NB480_474.out; have hnc56 := NB474_480.out; have hcz57_0 : w55.cell? ⟨gb480, 0, none⟩ = some (.string (⟨#[]⟩ : ByteArray)) := (kC BK480.out 0).trans rfl; have hcz57_1 : w55.cell? ⟨gb480, 1, none⟩ = some (.int .u8 0) := (kC BK480.out 1).trans rfl; have hcz57_2 : w55.cell? ⟨gb480, 2, none⟩ = some (.int .i64 0) := (kC BK480.out 2).trans rfl; have hfz57_0 := kF BK480.out 0; have hfz57_1 := kF BK480.out 1; have hfz57_2 := kF BK480.out 2) | (go_at_call 110; (with_reducible refine (octroiref31_Name.calls k2 ((rd_T70 l0_3 x3_2).f0) true _ A23.out).mono ?_); rintro e w' ⟨rfl, ⟨nd, rfl⟩⟩; (try first | exact ⟨rfl, _, World.drewN_drewN _ _ _⟩ | exact ⟨rfl, _, Eq.trans (World.drewN_drewN _ _ _) (congrArg (World.drewN _) (Nat.add_assoc _ _ _))⟩)) | (go_at_call 108; (with_reducible refine (octroiref31_number.calls ((rd_T70 l0_3 x3_2).f2) false _ A48.out).mono ?_); rintro e w' ⟨rfl, ⟨nd, rfl⟩⟩; (try first | exact ⟨rfl, _, World.drewN_drewN _ _ _⟩ | exact ⟨rfl, _, Eq.trans (World.drewN_drewN _ _ _) (congrArg (World.drewN _) (Nat.add_assoc _ _ _))⟩))); try go_wp2_with (first | ((with_reducible refine gate_dst (N := 4) rfl ?_); (try (refine gate_guard (by rfl) ?_; dsimp only)); refine box_event ?hg (N := 4) ?hd (cs := #[.string (⟨#[]⟩ : ByteArray), .int .u8 0, .int .i64 0]) (t := 70) ?hr ?_; (case hd => rfl); (case hg => rfl); (case hr => first | (go_simp; done) | (go_simp; rfl)); intro gb480 hg w55 hbox hb; have n0_ := A0m (blk_below (g := gb474) (o := .cells #[.int .i64 a0_0, .int .i64 a0_1, .string a0_2, .slice (some ad479) l0_3.length c0_3, .slice A0_4 l0_4.length c0_4] 25 (0, 0)) (by (with_reducible repeat (first | refine kN ?_ _ | refine kD ?_ | refine kA ?_ _)); exact BK474.out) hb); have n1_ := A0m (below_step (by repeat (first | (with_reducible first | exact HB.out | apply bA | apply bN | apply bD | refine bS ?_ GE474.out) | exact HB.out)) hb); have n2_ := A0m (hbox); have n3_ := A0m ((by rw [hg]; exact (below_size (by repeat (first | (with_reducible first | exact HB.out | apply bA | apply bN | apply bD | refine bS ?_ GE474.out) | exact HB.out))) : w.heap.size ≤ gb480)); have n4_ := A0m ((by rw [hg]; exact (below_size (by repeat (first | (with_reducible first | exact HB.out | apply bA | apply bN | apply bD | refine bS ?_ GE474.out) | exact HB.out))) : w.heap.size ≤ gb480)); have n5_ := A0m ((by rw [hg]; exact Nat.ne_of_lt (blk_lt (g := gb474) (o := .cells #[.int .i64 a0_0, .int .i64 a0_1, .string a0_2, .slice (some ad479) l0_3.length c0_3, .slice A0_4 l0_4.length c0_4] 25 (0, 0)) (by (with_reducible repeat (first | refine kN ?_ _ | refine kD ?_ | refine kA ?_ _)); exact BK474.out)) : gb474 ≠ gb480)); have n6_ := A0m ((by rw [hg]; exact Nat.ne_of_gt (blk_lt (g := gb474) (o := .cells #[.int .i64 a0_0, .int .i64 a0_1, .string a0_2, .slice (some ad479) l0_3.length c0_3, .slice A0_4 l0_4.length c0_4] 25 (0, 0)) (by (with_reducible repeat (first | refine kN ?_ _ | refine kD ?_ | refine kA ?_ _)); exact BK474.out)) : gb480 ≠ gb474)); clear BK474; clear HB; have BK474 := n0_; have HB := n1_; have BK480 := n2_; have GW480 := n3_; have GE480 := n4_; have NB474_480 := n5_; have NB480_474 := n6_; clear n0_ n1_ n2_ n3_ n4_ n5_ n6_; clear hb hbox hg; have hnb56 := NB480_474.out; have hnc56 := NB474_480.out; have hcz57_0 : w55.cell? ⟨gb480, 0, none⟩ = some (.string (⟨#[]⟩ : ByteArray)) := (kC BK480.out 0).trans rfl; have hcz57_1 : w55.cell? ⟨gb480, 1, none⟩ = some (.int .u8 0) := (kC BK480.out 1).trans rfl; have hcz57_2 : w55.cell? ⟨gb480, 2, none⟩ = some (.int .i64 0) := (kC BK480.out 2).trans rfl; have hfz57_0 := kF BK480.out 0; have hfz57_1 := kF BK480.out 1; have hfz57_2 := kF BK480.out 2) | (go_at_call 110; (with_reducible refine (octroiref31_Name.calls k2 ((rd_T70 l0_3 x3_2).f0) true _ A23.out).mono ?_); rintro e w' ⟨rfl, ⟨nd, rfl⟩⟩; (try first | exact ⟨rfl, _, World.drewN_drewN _ _ _⟩ | exact ⟨rfl, _, Eq.trans (World.drewN_drewN _ _ _) (congrArg (World.drewN _) (Nat.add_assoc _ _ _))⟩)) | (go_at_call 108; (with_reducible refine (octroiref31_number.calls ((rd_T70 l0_3 x3_2).f2) false _ A48.out).mono ?_); rintro e w' ⟨rfl, ⟨nd, rfl⟩⟩; (try first | exact ⟨rfl, _, World.drewN_drewN _ _ _⟩ | exact ⟨rfl, _, Eq.trans (World.drewN_drewN _ _ _) (congrArg (World.drewN _) (Nat.add_assoc _ _ _))⟩))))
                go_ret
                exact ⟨by first | rfl | (simp [errW_none, errW_some] <;> rfl) | (simp [*, errW_none, errW_some] <;> rfl), by repeat (first | (with_reducible first | exact HB.out | apply bA | apply bN | apply bD | refine bS ?_ GE474.out | refine bS ?_ GE480.out) | exact HB.out)⟩
              ·rw [if_neg c47] at H
               have c47b0 : (((rd_T70 l0_3 x3_2).f1) == 62) = false := beq_eq_false_iff_ne.mpr c47
               have c47b1 : (((rd_T70 l0_3 x3_2).f1) != 62) = true := bne_iff_ne.mpr c47
               obtain rfl := Option.some.inj H
               have hcz58_0 : wr.cell? ⟨gb474, 0, none⟩ = some (.int .i64 a0_0) := (kC BK474.out 0).trans rfl
               have hcz58_1 : wr.cell? ⟨gb474, 1, none⟩ = some (.int .i64 a0_1) := (kC BK474.out 1).trans rfl
               have hcz58_2 : wr.cell? ⟨gb474, 2, none⟩ = some (.string a0_2) := (kC BK474.out 2).trans rfl
               have hcz58_3 : wr.cell? ⟨gb474, 3, none⟩ = some (.slice A0_3 l0_3.length c0_3) := (kC BK474.out 3).trans rfl
               have hcz58_4 : wr.cell? ⟨gb474, 4, none⟩ = some (.slice A0_4 l0_4.length c0_4) := (kC BK474.out 4).trans rfl
               have hfz58_0 := kF BK474.out 0
               have hfz58_1 := kF BK474.out 1
               have hfz58_2 := kF BK474.out 2
               have hfz58_3 := kF BK474.out 3
               have hfz58_4 := kF BK474.out 4
               have p479 : 0 ≤ (x3_2 : Int) := dT (by first | (with_reducible assumption) | assumption)
               have q479 : x3_2 < (l0_3.length : Int) := dT (by first | (with_reducible assumption) | assumption)
               obtain ⟨ad479, e479, hx479_0, hx479_1, hx479_2⟩ := at_T70 HR0_3.out x3_2 p479 q479
               cases e479
               replace hx479_0 := (HB.out.cell (wL w _ hx479_0)).trans hx479_0
               replace hx479_1 := (HB.out.cell (wL w _ hx479_1)).trans hx479_1
               replace hx479_2 := (HB.out.cell (wL w _ hx479_2)).trans hx479_2
               replace p479 := eq_true p479
               replace q479 := eq_true q479
               go_wp2_with (first | ((with_reducible refine gate_dst (N := 4) rfl ?_); (try (refine gate_guard (by rfl) ?_; dsimp only)); refine box_event ?hg (N := 4) ?hd (cs := #[.string (⟨#[]⟩ : ByteArray), .int .u8 0, .int .i64 0]) (t := 70) ?hr ?_; (case hd => rfl); (case hg => rfl); (case hr => first | (go_simp; done) | (go_simp; rfl)); intro gb480 hg w59 hbox hb; have n0_ := A0m (blk_below (g := gb474) (o := .cells #[.int .i64 a0_0, .int .i64 a0_1, .string a0_2, .slice (some ad479) l0_3.length c0_3, .slice A0_4 l0_4.length c0_4] 25 (0, 0)) (by (with_reducible repeat (first | refine kN ?_ _ | refine kD ?_ | refine kA ?_ _)); exact BK474.out) hb); have n1_ := A0m (below_step (by repeat (first | (with_reducible first | exact HB.out | apply bA | apply bN | apply bD | refine bS ?_ GE474.out) | exact HB.out)) hb); have n2_ := A0m (hbox); have n3_ := A0m ((by rw [hg]; exact (below_size (by repeat (first | (with_reducible first | exact HB.out | apply bA | apply bN | apply bD | refine bS ?_ GE474.out) | exact HB.out))) : w.heap.size ≤ gb480)); have n4_ := A0m ((by rw [hg]; exact (below_size (by repeat (first | (with_reducible first | exact HB.out | apply bA | apply bN | apply bD | refine bS ?_ GE474.out) | exact HB.out))) : w.heap.size ≤ gb480)); have n5_ := A0m ((by rw [hg]; exact Nat.ne_of_lt (blk_lt (g := gb474) (o := .cells #[.int .i64 a0_0, .int .i64 a0_1, .string a0_2, .slice (some ad479) l0_3.length c0_3, .slice A0_4 l0_4.length c0_4] 25 (0, 0)) (by (with_reducible repeat (first | refine kN ?_ _ | refine kD ?_ | refine kA ?_ _)); exact BK474.out)) : gb474 ≠ gb480)); have n6_ := A0m ((by rw [hg]; exact Nat.ne_of_gt (blk_lt (g := gb474) (o := .cells #[.int .i64 a0_0, .int .i64 a0_1, .string a0_2, .slice (some ad479) l0_3.length c0_3, .slice A0_4 l0_4.length c0_4] 25 (0, 0)) (by (with_reducible repeat (first | refine kN ?_ _ | refine kD ?_ | refine kA ?_ _)); exact BK474.out)) : gb480 ≠ gb474)); clear BK474; clear HB; have BK474 := n0_; have HB := n1_; have BK480 := n2_; have GW480 := n3_; have GE480 := n4_; have NB474_480 := n5_; have NB480_474 := n6_; clear n0_ n1_ n2_ n3_ n4_ n5_ n6_; clear hb hbox hg; have hnb60 := NB480_474.out; have hnc60 := NB474_480.out; have hcz61_0 : w59.cell? ⟨gb480, 0, none⟩ = some (.string (⟨#[]⟩ : ByteArray)) := (kC BK480.out 0).trans rfl; have hcz61_1 : w59.cell? ⟨gb480, 1, none⟩ = some (.int .u8 0) := (kC BK480.out 1).trans rfl; have hcz61_2 : w59.cell? ⟨gb480, 2, none⟩ = some (.int .i64 0) := (kC BK480.out 2).trans rfl; have hfz61_0 := kF BK480.out 0; have hfz61_1 := kF BK480.out 1; have hfz61_2 := kF BK480.out 2) | (go_at_call 110; (with_reducible refine (octroiref31_Name.calls k2 ((rd_T70 l0_3 x3_2).f0) true _ A23.out).mono ?_); rintro e w' ⟨rfl, ⟨nd, rfl⟩⟩; (try first | exact ⟨rfl, _, World.drewN_drewN _ _ _⟩ | exact ⟨rfl, _, Eq.trans (World.drewN_drewN _ _ _) (congrArg (World.drewN _) (Nat.add_assoc _ _ _))⟩)))
               repeat (go_quiet (first | ((with_reducible refine gate_dst (N := 4) rfl ?_); (try (refine gate_guard (by rfl) ?_; dsimp only)); refine box_event ?hg (N := 4) ?hd (cs := #[.string (⟨#[]⟩ : ByteArray), .int .u8 0, .int .i64 0]) (t := 70) ?hr ?_; (case hd => rfl); (case hg => rfl); (case hr => first | (go_simp; done) | (go_simp; rfl)); intro gb480 hg w59 hbox hb; have n0_ := A0m (blk_below (g := gb474) (o := .cells #[.int .i64 a0_0, .int .i64 a0_1, .string a0_2, .slice (some ad479) l0_3.length c0_3, .slice A0_4 l0_4.length c0_4] 25 (0, 0)) (by (with_reducible repeat (first | refine kN ?_ _ | refine kD ?_ | refine kA ?_ _)); exact BK474.out) hb); have n1_ := A0m (below_step (by repeat (first | (with_reducible first | exact HB.out | apply bA | apply bN | apply bD | refine bS ?_ GE474.out) | exact HB.out)) hb); have n2_ := A0m (hbox); have n3_ := A0m ((by rw [hg]; exact (below_size (by repeat (first | (with_reducible first | exact HB.out | apply bA | apply bN | apply bD | refine bS ?_ GE474.out) | exact HB.out))) : w.heap.size ≤ gb480)); have n4_ := A0m ((by rw [hg]; exact (below_size (by repeat (first | (with_reducible first | exact HB.out | apply bA | apply bN | apply bD | refine bS ?_ GE474.out) | exact HB.out))) : w.heap.size ≤ gb480)); have n5_ := A0m ((by rw [hg]; exact Nat.ne_of_lt (blk_lt (g := gb474) (o := .cells #[.int .i64 a0_0, .int .i64 a0_1, .string a0_2, .slice (some ad479) l0_3.length c0_3, .slice A0_4 l0_4.length c0_4] 25 (0, 0)) (by (with_reducible repeat (first | refine kN ?_ _ | refine kD ?_ | refine kA ?_ _)); exact BK474.out)) : gb474 ≠ gb480)); have n6_ := A0m ((by rw [hg]; exact Nat.ne_of_gt (blk_lt (g := gb474) (o := .cells #[.int .i64 a0_0, .int .i64 a0_1, .string a0_2, .slice (some ad479) l0_3.length c0_3, .slice A0_4 l0_4.length c0_4] 25 (0, 0)) (by (with_reducible repeat (first | refine kN ?_ _ | refine kD ?_ | refine kA ?_ _)); exact BK474.out)) : gb480 ≠ gb474)); clear BK474; clear HB; have BK474 := n0_; have HB := n1_; have BK480 := n2_; have GW480 := n3_; have GE480 := n4_; have NB474_480 := n5_; have NB480_474 := n6_; clear n0_ n1_ n2_ n3_ n4_ n5_ n6_; clear hb hbox hg; have hnb60 := NB480_474.out; have hnc60 := NB474_480.out; have hcz61_0 : w59.cell? ⟨gb480, 0, none⟩ = some (.string (⟨#[]⟩ : ByteArray)) := (kC BK480.out 0).trans rfl; have hcz61_1 : w59.cell? ⟨gb480, 1, none⟩ = some (.int .u8 0) := (kC BK480.out 1).trans rfl; have hcz61_2 : w59.cell? ⟨gb480, 2, none⟩ = some (.int .i64 0) := (kC BK480.out 2).trans rfl; have hfz61_0 := kF BK480.out 0; have hfz61_1 := kF BK480.out 1; have hfz61_2 := kF BK480.out 2) | (go_at_call 110; (with_reducible refine (octroiref31_Name.calls k2 ((rd_T70 l0_3 x3_2).f0) true _ A23.out).mono ?_); rintro e w' ⟨rfl, ⟨nd, rfl⟩⟩; (try first | exact ⟨rfl, _, World.drewN_drewN _ _ _⟩ | exact ⟨rfl, _, Eq.trans (World.drewN_drewN _ _ _) (congrArg (World.drewN _) (Nat.add_assoc _ _ _))⟩))); try go_wp2_with (first | ((with_reducible refine gate_dst (N := 4) rfl ?_); (try (refine gate_guard (by rfl) ?_; dsimp only)); refine box_event ?hg (N := 4) ?hd (cs := #[.string (⟨#[]⟩ : ByteArray), .int .u8 0, .int .i64 0]) (t := 70) ?hr ?_; (case hd => rfl); (case hg => rfl); (case hr => first | (go_simp; done) | (go_simp; rfl)); intro gb480 hg w59 hbox hb; have n0_ := A0m (blk_below (g := gb474) (o := .cells #[.int .i64 a0_0, .int .i64 a0_1, .string a0_2, .slice (some ad479) l0_3.length c0_3, .slice A0_4 l0_4.length c0_4] 25 (0, 0)) (by (with_reducible repeat (first | refine kN ?_ _ | refine kD ?_ | refine kA ?_ _)); exact BK474.out) hb); have n1_ := A0m (below_step (by repeat (first | (with_reducible first | exact HB.out | apply bA | apply bN | apply bD | refine bS ?_ GE474.out) | exact HB.out)) hb); have n2_ := A0m (hbox); have n3_ := A0m ((by rw [hg]; exact (below_size (by repeat (first | (with_reducible first | exact HB.out | apply bA | apply bN | apply bD | refine bS ?_ GE474.out) | exact HB.out))) : w.heap.size ≤ gb480)); have n4_ := A0m ((by rw [hg]; exact (below_size (by repeat (first | (with_reducible first | exact HB.out | apply bA | apply bN | apply bD | refine bS ?_ GE474.out) | exact HB.out))) : w.heap.size ≤ gb480)); have n5_ := A0m ((by rw [hg]; exact Nat.ne_of_lt (blk_lt (g := gb474) (o := .cells #[.int .i64 a0_0, .int .i64 a0_1, .string a0_2, .slice (some ad479) l0_3.length c0_3, .slice A0_4 l0_4.length c0_4] 25 (0, 0)) (by (with_reducible repeat (first | refine kN ?_ _ | refine kD ?_ | refine kA ?_ _)); exact BK474.out)) : gb474 ≠ gb480)); have n6_ := A0m ((by rw [hg]; exact Nat.ne_of_gt (blk_lt (g := gb474) (o := .cells #[.int .i64 a0_0, .int .i64 a0_1, .string a0_2, .slice (some ad479) l0_3.length c0_3, .slice A0_4 l0_4.length c0_4] 25 (0, 0)) (by (with_reducible repeat (first | refine kN ?_ _ | refine kD ?_ | refine kA ?_ _)); exact BK474.out)) : gb480 ≠ gb474)); clear BK474; clear HB; have BK474 := n0_; have HB := n1_; have BK480 := n2_; have GW480 := n3_; have GE480 := n4_; have NB474_480 := n5_; have NB480_474 := n6_; clear n0_ n1_ n2_ n3_ n4_ n5_ n6_; clear hb hbox hg; have hnb60 := NB480_474.out; have hnc60 := NB474_480.out; have hcz61_0 : w59.cell? ⟨gb480, 0, none⟩ = some (.string (⟨#[]⟩ : ByteArray)) := (kC BK480.out 0).trans rfl; have hcz61_1 : w59.cell? ⟨gb480, 1, none⟩ = some (.int .u8 0) := (kC BK480.out 1).trans rfl; have hcz61_2 : w59.cell? ⟨gb480, 2, none⟩ = some (.int .i64 0) := (kC BK480.out 2).trans rfl; have hfz61_0 := kF BK480.out 0; have hfz61_1 := kF BK480.out 1; have hfz61_2 := kF BK480.out 2) | (go_at_call 110; (with_reducible refine (octroiref31_Name.calls k2 ((rd_T70 l0_3 x3_2).f0) true _ A23.out).mono ?_); rintro e w' ⟨rfl, ⟨nd, rfl⟩⟩; (try first | exact ⟨rfl, _, World.drewN_drewN _ _ _⟩ | exact ⟨rfl, _, Eq.trans (World.drewN_drewN _ _ _) (congrArg (World.drewN _) (Nat.add_assoc _ _ _))⟩))))
               go_ret
               exact ⟨by first | rfl | (simp [errW_none, errW_some] <;> rfl) | (simp [*, errW_none, errW_some] <;> rfl), by repeat (first | (with_reducible first | exact HB.out | apply bA | apply bN | apply bD | refine bS ?_ GE474.out | refine bS ?_ GE480.out) | exact HB.out)⟩
           ·replace c24 := Bool.eq_false_iff.mpr c24
            subst c24
            have H1 : (some false) = some r := by rw [if_neg (show ¬ (false = true) by decide)] at H; exact H
            clear H
            have H := H1
            clear H1
            obtain rfl := Option.some.inj H
            have hcz62_0 : wr.cell? ⟨gb474, 0, none⟩ = some (.int .i64 a0_0) := (kC BK474.out 0).trans rfl
            have hcz62_1 : wr.cell? ⟨gb474, 1, none⟩ = some (.int .i64 a0_1) := (kC BK474.out 1).trans rfl
            have hcz62_2 : wr.cell? ⟨gb474, 2, none⟩ = some (.string a0_2) := (kC BK474.out 2).trans rfl
            have hcz62_3 : wr.cell? ⟨gb474, 3, none⟩ = some (.slice A0_3 l0_3.length c0_3) := (kC BK474.out 3).trans rfl
            have hcz62_4 : wr.cell? ⟨gb474, 4, none⟩ = some (.slice A0_4 l0_4.length c0_4) := (kC BK474.out 4).trans rfl
            have hfz62_0 := kF BK474.out 0
            have hfz62_1 := kF BK474.out 1
            have hfz62_2 := kF BK474.out 2
            have hfz62_3 := kF BK474.out 3
            have hfz62_4 := kF BK474.out 4
            have p479 : 0 ≤ (x3_2 : Int) := dT (by first | (with_reducible assumption) | assumption)
            have q479 : x3_2 < (l0_3.length : Int) := dT (by first | (with_reducible assumption) | assumption)
            obtain ⟨ad479, e479, hx479_0, hx479_1, hx479_2⟩ := at_T70 HR0_3.out x3_2 p479 q479
            cases e479
            replace hx479_0 := (HB.out.cell (wL w _ hx479_0)).trans hx479_0
            replace hx479_1 := (HB.out.cell (wL w _ hx479_1)).trans hx479_1
            replace hx479_2 := (HB.out.cell (wL w _ hx479_2)).trans hx479_2
            replace p479 := eq_true p479
            replace q479 := eq_true q479
            go_wp2_with (first | ((with_reducible refine gate_dst (N := 4) rfl ?_); (try (refine gate_guard (by rfl) ?_; dsimp only)); refine box_event ?hg (N := 4) ?hd (cs := #[.string (⟨#[]⟩ : ByteArray), .int .u8 0, .int .i64 0]) (t := 70) ?hr ?_; (case hd => rfl); (case hg => rfl); (case hr => first | (go_simp; done) | (go_simp; rfl)); intro gb480 hg w63 hbox hb; have n0_ := A0m (blk_below (g := gb474) (o := .cells #[.int .i64 a0_0, .int .i64 a0_1, .string a0_2, .slice (some ad479) l0_3.length c0_3, .slice A0_4 l0_4.length c0_4] 25 (0, 0)) (by (with_reducible repeat (first | refine kN ?_ _ | refine kD ?_ | refine kA ?_ _)); exact BK474.out) hb); have n1_ := A0m (below_step (by repeat (first | (with_reducible first | exact HB.out | apply bA | apply bN | apply bD | refine bS ?_ GE474.out) | exact HB.out)) hb); have n2_ := A0m (hbox); have n3_ := A0m ((by rw [hg]; exact (below_size (by repeat (first | (with_reducible first | exact HB.out | apply bA | apply bN | apply bD | refine bS ?_ GE474.out) | exact HB.out))) : w.heap.size ≤ gb480)); have n4_ := A0m ((by rw [hg]; exact (below_size (by repeat (first | (with_reducible first | exact HB.out | apply bA | apply bN | apply bD | refine bS ?_ GE474.out) | exact HB.out))) : w.heap.size ≤ gb480)); have n5_ := A0m ((by rw [hg]; exact Nat.ne_of_lt (blk_lt (g := gb474) (o := .cells #[.int .i64 a0_0, .int .i64 a0_1, .string a0_2, .slice (some ad479) l0_3.length c0_3, .slice A0_4 l0_4.length c0_4] 25 (0, 0)) (by (with_reducible repeat (first | refine kN ?_ _ | refine kD ?_ | refine kA ?_ _)); exact BK474.out)) : gb474 ≠ gb480)); have n6_ := A0m ((by rw [hg]; exact Nat.ne_of_gt (blk_lt (g := gb474) (o := .cells #[.int .i64 a0_0, .int .i64 a0_1, .string a0_2, .slice (some ad479) l0_3.length c0_3, .slice A0_4 l0_4.length c0_4] 25 (0, 0)) (by (with_reducible repeat (first | refine kN ?_ _ | refine kD ?_ | refine kA ?_ _)); exact BK474.out)) : gb480 ≠ gb474)); clear BK474; clear HB; have BK474 := n0_; have HB := n1_; have BK480 := n2_; have GW480 := n3_; have GE480 := n4_; have NB474_480 := n5_; have NB480_474 := n6_; clear n0_ n1_ n2_ n3_ n4_ n5_ n6_; clear hb hbox hg; have hnb64 := NB480_474.out; have hnc64 := NB474_480.out; have hcz65_0 : w63.cell? ⟨gb480, 0, none⟩ = some (.string (⟨#[]⟩ : ByteArray)) := (kC BK480.out 0).trans rfl; have hcz65_1 : w63.cell? ⟨gb480, 1, none⟩ = some (.int .u8 0) := (kC BK480.out 1).trans rfl; have hcz65_2 : w63.cell? ⟨gb480, 2, none⟩ = some (.int .i64 0) := (kC BK480.out 2).trans rfl; have hfz65_0 := kF BK480.out 0; have hfz65_1 := kF BK480.out 1; have hfz65_2 := kF BK480.out 2) | (go_at_call 110; (with_reducible refine (octroiref31_Name.calls k2 ((rd_T70 l0_3 x3_2).f0) false _ A23.out).mono ?_); rintro e w' ⟨rfl, ⟨nd, rfl⟩⟩; (try first | exact ⟨rfl, _, World.drewN_drewN _ _ _⟩ | exact ⟨rfl, _, Eq.trans (World.drewN_drewN _ _ _) (congrArg (World.drewN _) (Nat.add_assoc _ _ _))⟩)))
            repeat (go_quiet (first | ((with_reducible refine gate_dst (N := 4) rfl ?_); (try (refine gate_guard (by rfl) ?_; dsimp only)); refine box_event ?hg (N := 4) ?hd (cs := #[.string (⟨#[]⟩ : ByteArray), .int .u8 0, .int .i64 0]) (t := 70) ?hr ?_; (case hd => rfl); (case hg => rfl); (case hr => first | (go_simp; done) | (go_simp; rfl)); intro gb480 hg w63 hbox hb; have n0_ := A0m (blk_below (g := gb474) (o := .cells #[.int .i64 a0_0, .int .i64 a0_1, .string a0_2, .slice (some ad479) l0_3.length c0_3, .slice A0_4 l0_4.length c0_4] 25 (0, 0)) (by (with_reducible repeat (first | refine kN ?_ _ | refine kD ?_ | refine kA ?_ _)); exact BK474.out) hb); have n1_ := A0m (below_step (by repeat (first | (with_reducible first | exact HB.out | apply bA | apply bN | apply bD | refine bS ?_ GE474.out) | exact HB.out)) hb); have n2_ := A0m (hbox); have n3_ := A0m ((by rw [hg]; exact (below_size (by repeat (first | (with_reducible first | exact HB.out | apply bA | apply bN | apply bD | refine bS ?_ GE474.out) | exact HB.out))) : w.heap.size ≤ gb480)); have n4_ := A0m ((by rw [hg]; exact (below_size (by repeat (first | (with_reducible first | exact HB.out | apply bA | apply bN | apply bD | refine bS ?_ GE474.out) | exact HB.out))) : w.heap.size ≤ gb480)); have n5_ := A0m ((by rw [hg]; exact Nat.ne_of_lt (blk_lt (g := gb474) (o := .cells #[.int .i64 a0_0, .int .i64 a0_1, .string a0_2, .slice (some ad479) l0_3.length c0_3, .slice A0_4 l0_4.length c0_4] 25 (0, 0)) (by (with_reducible repeat (first | refine kN ?_ _ | refine kD ?_ | refine kA ?_ _)); exact BK474.out)) : gb474 ≠ gb480)); have n6_ := A0m ((by rw [hg]; exact Nat.ne_of_gt (blk_lt (g := gb474) (o := .cells #[.int .i64 a0_0, .int .i64 a0_1, .string a0_2, .slice (some ad479) l0_3.length c0_3, .slice A0_4 l0_4.length c0_4] 25 (0, 0)) (by (with_reducible repeat (first | refine kN ?_ _ | refine kD ?_ | refine kA ?_ _)); exact BK474.out)) : gb480 ≠ gb474)); clear BK474; clear HB; have BK474 := n0_; have HB := n1_; have BK480 := n2_; have GW480 := n3_; have GE480 := n4_; have NB474_480 := n5_; have NB480_474 := n6_; clear n0_ n1_ n2_ n3_ n4_ n5_ n6_; clear hb hbox hg; have hnb64 := NB480_474.out; have hnc64 := NB474_480.out; have hcz65_0 : w63.cell? ⟨gb480, 0, none⟩ = some (.string (⟨#[]⟩ : ByteArray)) := (kC BK480.out 0).trans rfl; have hcz65_1 : w63.cell? ⟨gb480, 1, none⟩ = some (.int .u8 0) := (kC BK480.out 1).trans rfl; have hcz65_2 : w63.cell? ⟨gb480, 2, none⟩ = some (.int .i64 0) := (kC BK480.out 2).trans rfl; have hfz65_0 := kF BK480.out 0; have hfz65_1 := kF BK480.out 1; have hfz65_2 := kF BK480.out 2) | (go_at_call 110; (with_reducible refine (octroiref31_Name.calls k2 ((rd_T70 l0_3 x3_2).f0) false _ A23.out).mono ?_); rintro e w' ⟨rfl, ⟨nd, rfl⟩⟩; (try first | exact ⟨rfl, _, World.drewN_drewN _ _ _⟩ | exact ⟨rfl, _, Eq.trans (World.drewN_drewN _ _ _) (congrArg (World.drewN _) (Nat.add_assoc _ _ _))⟩))); try go_wp2_with (first | ((with_reducible refine gate_dst (N := 4) rfl ?_); (try (refine gate_guard (by rfl) ?_; dsimp only)); refine box_event ?hg (N := 4) ?hd (cs := #[.string (⟨#[]⟩ : ByteArray), .int .u8 0, .int .i64 0]) (t := 70) ?hr ?_; (case hd => rfl); (case hg => rfl); (case hr => first | (go_simp; done) | (go_simp; rfl)); intro gb480 hg w63 hbox hb; have n0_ := A0m (blk_below (g := gb474) (o := .cells #[.int .i64 a0_0, .int .i64 a0_1, .string a0_2, .slice (some ad479) l0_3.length c0_3, .slice A0_4 l0_4.length c0_4] 25 (0, 0)) (by (with_reducible repeat (first | refine kN ?_ _ | refine kD ?_ | refine kA ?_ _)); exact BK474.out) hb); have n1_ := A0m (below_step (by repeat (first | (with_reducible first | exact HB.out | apply bA | apply bN | apply bD | refine bS ?_ GE474.out) | exact HB.out)) hb); have n2_ := A0m (hbox); have n3_ := A0m ((by rw [hg]; exact (below_size (by repeat (first | (with_reducible first | exact HB.out | apply bA | apply bN | apply bD | refine bS ?_ GE474.out) | exact HB.out))) : w.heap.size ≤ gb480)); have n4_ := A0m ((by rw [hg]; exact (below_size (by repeat (first | (with_reducible first | exact HB.out | apply bA | apply bN | apply bD | refine bS ?_ GE474.out) | exact HB.out))) : w.heap.size ≤ gb480)); have n5_ := A0m ((by rw [hg]; exact Nat.ne_of_lt (blk_lt (g := gb474) (o := .cells #[.int .i64 a0_0, .int .i64 a0_1, .string a0_2, .slice (some ad479) l0_3.length c0_3, .slice A0_4 l0_4.length c0_4] 25 (0, 0)) (by (with_reducible repeat (first | refine kN ?_ _ | refine kD ?_ | refine kA ?_ _)); exact BK474.out)) : gb474 ≠ gb480)); have n6_ := A0m ((by rw [hg]; exact Nat.ne_of_gt (blk_lt (g := gb474) (o := .cells #[.int .i64 a0_0, .int .i64 a0_1, .string a0_2, .slice (some ad479) l0_3.length c0_3, .slice A0_4 l0_4.length c0_4] 25 (0, 0)) (by (with_reducible repeat (first | refine kN ?_ _ | refine kD ?_ | refine kA ?_ _)); exact BK474.out)) : gb480 ≠ gb474)); clear BK474; clear HB; have BK474 := n0_; have HB := n1_; have BK480 := n2_; have GW480 := n3_; have GE480 := n4_; have NB474_480 := n5_; have NB480_474 := n6_; clear n0_ n1_ n2_ n3_ n4_ n5_ n6_; clear hb hbox hg; have hnb64 := NB480_474.out; have hnc64 := NB474_480.out; have hcz65_0 : w63.cell? ⟨gb480, 0, none⟩ = some (.string (⟨#[]⟩ : ByteArray)) := (kC BK480.out 0).trans rfl; have hcz65_1 : w63.cell? ⟨gb480, 1, none⟩ = some (.int .u8 0) := (kC BK480.out 1).trans rfl; have hcz65_2 : w63.cell? ⟨gb480, 2, none⟩ = some (.int .i64 0) := (kC BK480.out 2).trans rfl; have hfz65_0 := kF BK480.out 0; have hfz65_1 := kF BK480.out 1; have hfz65_2 := kF BK480.out 2) | (go_at_call 110; (with_reducible refine (octroiref31_Name.calls k2 ((rd_T70 l0_3 x3_2).f0) false _ A23.out).mono ?_); rintro e w' ⟨rfl, ⟨nd, rfl⟩⟩; (try first | exact ⟨rfl, _, World.drewN_drewN _ _ _⟩ | exact ⟨rfl, _, Eq.trans (World.drewN_drewN _ _ _) (congrArg (World.drewN _) (Nat.add_assoc _ _ _))⟩))))
            go_ret
            exact ⟨by first | rfl | (simp [errW_none, errW_some] <;> rfl) | (simp [*, errW_none, errW_some] <;> rfl), by repeat (first | (with_reducible first | exact HB.out | apply bA | apply bN | apply bD | refine bS ?_ GE474.out | refine bS ?_ GE480.out) | exact HB.out)⟩
          ·rw [if_neg c22] at H
           exact absurd H (by simp)
         ·rw [if_neg c21] at H
          have c21b0 : decide (x3_2 < (l0_3.length : Int)) = false := decide_eq_false c21
          clear c21
          by_cases c66 : a0_1 = 0
          ·rw [if_pos c66] at H
           have c66b0 : (a0_1 == 0) = true := beq_iff_eq.mpr c66
           have c66b1 : (a0_1 != 0) = false := bne_eq_false_iff_eq.mpr c66
           clear c66
           replace H := Option.bind_eq_some_iff.mp H
           obtain ⟨t478, A670, H⟩ := H
           replace H : (if t478 = true then (some (decide ((l0_3.length : Int) ≤ 16))) else (some false)) = some r := H
           have A67 := A0m A670
           clear A670
           by_cases c68 : t478 = true
           ·subst c68
            have H1 : (some (decide ((l0_3.length : Int) ≤ 16))) = some r := by rw [if_pos rfl] at H; exact H
            clear H
            have H := H1
            clear H1
            obtain rfl := Option.some.inj H
            have hcz69_0 : wr.cell? ⟨gb474, 0, none⟩ = some (.int .i64 a0_0) := (kC BK474.out 0).trans rfl
            have hcz69_1 : wr.cell? ⟨gb474, 1, none⟩ = some (.int .i64 a0_1) := (kC BK474.out 1).trans rfl
            have hcz69_2 : wr.cell? ⟨gb474, 2, none⟩ = some (.string a0_2) := (kC BK474.out 2).trans rfl
            have hcz69_3 : wr.cell? ⟨gb474, 3, none⟩ = some (.slice A0_3 l0_3.length c0_3) := (kC BK474.out 3).trans rfl
            have hcz69_4 : wr.cell? ⟨gb474, 4, none⟩ = some (.slice A0_4 l0_4.length c0_4) := (kC BK474.out 4).trans rfl
            have hfz69_0 := kF BK474.out 0
            have hfz69_1 := kF BK474.out 1
            have hfz69_2 := kF BK474.out 2
            have hfz69_3 := kF BK474.out 3
            have hfz69_4 := kF BK474.out 4
            go_wp2_with (first | (go_at_call 110; (with_reducible refine (octroiref31_Name.calls k2 a0_2 true _ A67.out).mono ?_); rintro e w' ⟨rfl, ⟨nd, rfl⟩⟩; (try first | exact ⟨rfl, _, World.drewN_drewN _ _ _⟩ | exact ⟨rfl, _, Eq.trans (World.drewN_drewN _ _ _) (congrArg (World.drewN _) (Nat.add_assoc _ _ _))⟩)))
            repeat (go_quiet (first | (go_at_call 110; (with_reducible refine (octroiref31_Name.calls k2 a0_2 true _ A67.out).mono ?_); rintro e w' ⟨rfl, ⟨nd, rfl⟩⟩; (try first | exact ⟨rfl, _, World.drewN_drewN _ _ _⟩ | exact ⟨rfl, _, Eq.trans (World.drewN_drewN _ _ _) (congrArg (World.drewN _) (Nat.add_assoc _ _ _))⟩))); try go_wp2_with (first | (go_at_call 110; (with_reducible refine (octroiref31_Name.calls k2 a0_2 true _ A67.out).mono ?_); rintro e w' ⟨rfl, ⟨nd, rfl⟩⟩; (try first | exact ⟨rfl, _, World.drewN_drewN _ _ _⟩ | exact ⟨rfl, _, Eq.trans (World.drewN_drewN _ _ _) (congrArg (World.drewN _) (Nat.add_assoc _ _ _))⟩))))
            go_ret
            exact ⟨by first | rfl | (simp [errW_none, errW_some] <;> rfl) | (simp [*, errW_none, errW_some] <;> rfl), by repeat (first | (with_reducible first | exact HB.out | apply bA | apply bN | apply bD | refine bS ?_ GE474.out) | exact HB.out)⟩
           ·replace c68 := Bool.eq_false_iff.mpr c68
            subst c68
            have H1 : (some false) = some r := by rw [if_neg (show ¬ (false = true) by decide)] at H; exact H
            clear H
            have H := H1
            clear H1
            obtain rfl := Option.some.inj H
            have hcz70_0 : wr.cell? ⟨gb474, 0, none⟩ = some (.int .i64 a0_0) := (kC BK474.out 0).trans rfl
            have hcz70_1 : wr.cell? ⟨gb474, 1, none⟩ = some (.int .i64 a0_1) := (kC BK474.out 1).trans rfl
            have hcz70_2 : wr.cell? ⟨gb474, 2, none⟩ = some (.string a0_2) := (kC BK474.out 2).trans rfl
            have hcz70_3 : wr.cell? ⟨gb474, 3, none⟩ = some (.slice A0_3 l0_3.length c0_3) := (kC BK474.out 3).trans rfl
            have hcz70_4 : wr.cell? ⟨gb474, 4, none⟩ = some (.slice A0_4 l0_4.length c0_4) := (kC BK474.out 4).trans rfl
            have hfz70_0 := kF BK474.out 0
            have hfz70_1 := kF BK474.out 1
            have hfz70_2 := kF BK474.out 2
            have hfz70_3 := kF BK474.out 3
            have hfz70_4 := kF BK474.out 4
            go_wp2_with (first | (go_at_call 110; (with_reducible refine (octroiref31_Name.calls k2 a0_2 false _ A67.out).mono ?_); rintro e w' ⟨rfl, ⟨nd, rfl⟩⟩; (try first | exact ⟨rfl, _, World.drewN_drewN _ _ _⟩ | exact ⟨rfl, _, Eq.trans (World.drewN_drewN _ _ _) (congrArg (World.drewN _) (Nat.add_assoc _ _ _))⟩)))
            repeat (go_quiet (first | (go_at_call 110; (with_reducible refine (octroiref31_Name.calls k2 a0_2 false _ A67.out).mono ?_); rintro e w' ⟨rfl, ⟨nd, rfl⟩⟩; (try first | exact ⟨rfl, _, World.drewN_drewN _ _ _⟩ | exact ⟨rfl, _, Eq.trans (World.drewN_drewN _ _ _) (congrArg (World.drewN _) (Nat.add_assoc _ _ _))⟩))); try go_wp2_with (first | (go_at_call 110; (with_reducible refine (octroiref31_Name.calls k2 a0_2 false _ A67.out).mono ?_); rintro e w' ⟨rfl, ⟨nd, rfl⟩⟩; (try first | exact ⟨rfl, _, World.drewN_drewN _ _ _⟩ | exact ⟨rfl, _, Eq.trans (World.drewN_drewN _ _ _) (congrArg (World.drewN _) (Nat.add_assoc _ _ _))⟩))))
            go_ret
            exact ⟨by first | rfl | (simp [errW_none, errW_some] <;> rfl) | (simp [*, errW_none, errW_some] <;> rfl), by repeat (first | (with_reducible first | exact HB.out | apply bA | apply bN | apply bD | refine bS ?_ GE474.out) | exact HB.out)⟩
          ·rw [if_neg c66] at H
           have c66b0 : (a0_1 == 0) = false := beq_eq_false_iff_ne.mpr c66
           have c66b1 : (a0_1 != 0) = true := bne_iff_ne.mpr c66
           obtain rfl := Option.some.inj H
           have hcz71_0 : wr.cell? ⟨gb474, 0, none⟩ = some (.int .i64 a0_0) := (kC BK474.out 0).trans rfl
           have hcz71_1 : wr.cell? ⟨gb474, 1, none⟩ = some (.int .i64 a0_1) := (kC BK474.out 1).trans rfl
           have hcz71_2 : wr.cell? ⟨gb474, 2, none⟩ = some (.string a0_2) := (kC BK474.out 2).trans rfl
           have hcz71_3 : wr.cell? ⟨gb474, 3, none⟩ = some (.slice A0_3 l0_3.length c0_3) := (kC BK474.out 3).trans rfl
           have hcz71_4 : wr.cell? ⟨gb474, 4, none⟩ = some (.slice A0_4 l0_4.length c0_4) := (kC BK474.out 4).trans rfl
           have hfz71_0 := kF BK474.out 0
           have hfz71_1 := kF BK474.out 1
           have hfz71_2 := kF BK474.out 2
           have hfz71_3 := kF BK474.out 3
           have hfz71_4 := kF BK474.out 4
           go_wp2
           repeat (go_quiet (fail); try go_wp2)
           go_ret
           exact ⟨by first | rfl | (simp [errW_none, errW_some] <;> rfl) | (simp [*, errW_none, errW_some] <;> rfl), by repeat (first | (with_reducible first | exact HB.out | apply bA | apply bN | apply bD | refine bS ?_ GE474.out) | exact HB.out)⟩
      ·rw [if_neg c19] at H
       have c19b0 : (a0_0 == 3) = false := beq_eq_false_iff_ne.mpr c19
       have c19b1 : (a0_0 != 3) = true := bne_iff_ne.mpr c19
       have H' := A0m H
       clear H
       have hcz72_0 : wc.cell? ⟨gb474, 0, none⟩ = some (.int .i64 a0_0) := (kC BK474.out 0).trans rfl
       have hcz72_1 : wc.cell? ⟨gb474, 1, none⟩ = some (.int .i64 a0_1) := (kC BK474.out 1).trans rfl
       have hcz72_2 : wc.cell? ⟨gb474, 2, none⟩ = some (.string a0_2) := (kC BK474.out 2).trans rfl
       have hcz72_3 : wc.cell? ⟨gb474, 3, none⟩ = some (.slice A0_3 l0_3.length c0_3) := (kC BK474.out 3).trans rfl
       have hcz72_4 : wc.cell? ⟨gb474, 4, none⟩ = some (.slice A0_4 l0_4.length c0_4) := (kC BK474.out 4).trans rfl
       have hfz72_0 := kF BK474.out 0
       have hfz72_1 := kF BK474.out 1
       have hfz72_2 := kF BK474.out 2
       have hfz72_3 := kF BK474.out 3
       have hfz72_4 := kF BK474.out 4
       go_wp2
       repeat (go_quiet (fail); try go_wp2)
       go_loopg [5] kj1 (fun kq v5 w' => ∃ (x5_2 : Int), v5 = .int .i64 x5_2 ∧ Aside0 (octroiref31_right.l1 kq x5_2 a0_0 a0_1 a0_2 l0_3 l0_4 = some r) ∧ Aside0 (kq ≤ kj1) ∧ Aside0 (w'.heap[gb474]? = some (.cells #[.int .i64 a0_0, .int .i64 a0_1, .string a0_2, (.slice A0_3 l0_3.length c0_3), (.slice A0_4 l0_4.length c0_4)] 25 (0, 0))) ∧ Aside0 (Below w.heap.size w w'))
       case atStart => exact ⟨(0), (by first | rfl | (simp; done) | (simp [*]; done)), H', ⟨Nat.le_refl _⟩, ⟨by (with_reducible repeat (first | refine kN ?_ _ | refine kD ?_ | refine kA ?_ _)); exact BK474.out⟩, ⟨by repeat (first | (with_reducible first | exact HB.out | apply bA | apply bN | apply bD | refine bS ?_ GE474.out) | exact HB.out)⟩⟩
       case round =>
        clear H'
        try clear c1
        try clear c2
        try clear p2
        try clear c3
        try clear c4
        try clear p4
        try clear q4
        try clear hx4
        try clear c5
        try clear c5b0
        try clear c5b1
        try clear c6
        try clear c6b0
        try clear c6b1
        try clear p6
        try clear c8
        try clear c8b0
        try clear c8b1
        try clear c12
        try clear c13
        try clear c13b0
        try clear c13b1
        try clear c16
        try clear c16b0
        try clear c16b1
        try clear c19
        try clear c19b0
        try clear c19b1
        try clear c21
        try clear c21b0
        try clear c22
        try clear c22b0
        try clear c24
        try clear c25
        try clear c25b0
        try clear c25b1
        try clear c27
        try clear c30
        try clear c34
        try clear c36
        try clear c36b0
        try clear c36b1
        try clear c38
        try clear c41
        try clear c45
        try clear c47
        try clear c47b0
        try clear c47b1
        try clear p47
        try clear q47
        try clear hx47
        try clear c49
        try clear c52
        try clear c56
        try clear c60
        try clear c64
        try clear p64
        try clear c66
        try clear c66b0
        try clear c66b1
        try clear c68
        try clear hcz10_0
        try clear hcz10_1
        try clear hcz10_2
        try clear hcz10_3
        try clear hcz10_4
        try clear hcz11_0
        try clear hcz11_1
        try clear hcz11_2
        try clear hcz11_3
        try clear hcz11_4
        try clear hcz15_0
        try clear hcz15_1
        try clear hcz15_2
        try clear hcz15_3
        try clear hcz15_4
        try clear hcz18_0
        try clear hcz18_1
        try clear hcz18_2
        try clear hcz18_3
        try clear hcz18_4
        try clear hcz20_0
        try clear hcz20_1
        try clear hcz20_2
        try clear hcz20_3
        try clear hcz20_4
        try clear hcz28_0
        try clear hcz28_1
        try clear hcz28_2
        try clear hcz28_3
        try clear hcz28_4
        try clear hcz31_0
        try clear hcz31_1
        try clear hcz31_2
        try clear hcz32_0
        try clear hcz32_1
        try clear hcz32_2
        try clear hcz32_3
        try clear hcz32_4
        try clear hcz35_0
        try clear hcz35_1
        try clear hcz35_2
        try clear hcz39_0
        try clear hcz39_1
        try clear hcz39_2
        try clear hcz39_3
        try clear hcz39_4
        try clear hcz42_0
        try clear hcz42_1
        try clear hcz42_2
        try clear hcz43_0
        try clear hcz43_1
        try clear hcz43_2
        try clear hcz43_3
        try clear hcz43_4
        try clear hcz46_0
        try clear hcz46_1
        try clear hcz46_2
        try clear hcz50_0
        try clear hcz50_1
        try clear hcz50_2
        try clear hcz50_3
        try clear hcz50_4
        try clear hcz53_0
        try clear hcz53_1
        try clear hcz53_2
        try clear hcz54_0
        try clear hcz54_1
        try clear hcz54_2
        try clear hcz54_3
        try clear hcz54_4
        try clear hcz57_0
        try clear hcz57_1
        try clear hcz57_2
        try clear hcz58_0
        try clear hcz58_1
        try clear hcz58_2
        try clear hcz58_3
        try clear hcz58_4
        try clear hcz61_0
        try clear hcz61_1
        try clear hcz61_2
        try clear hcz62_0
        try clear hcz62_1
        try clear hcz62_2
        try clear hcz62_3
        try clear hcz62_4
        try clear hcz65_0
        try clear hcz65_1
        try clear hcz65_2
        try clear hcz69_0
        try clear hcz69_1
        try clear hcz69_2
        try clear hcz69_3
        try clear hcz69_4
        try clear hcz70_0
        try clear hcz70_1
        try clear hcz70_2
        try clear hcz70_3
        try clear hcz70_4
        try clear hcz71_0
        try clear hcz71_1
        try clear hcz71_2
        try clear hcz71_3
        try clear hcz71_4
        try clear hcz72_0
        try clear hcz72_1
        try clear hcz72_2
        try clear hcz72_3
        try clear hcz72_4
        try clear hcz7_0
        try clear hcz7_1
        try clear hcz7_2
        try clear hcz7_3
        try clear hcz7_4
        try clear hcz9_0
        try clear hcz9_1
        try clear hcz9_2
        try clear hcz9_3
        try clear hcz9_4
        try clear hfz10_0
        try clear hfz10_1
        try clear hfz10_2
        try clear hfz10_3
        try clear hfz10_4
        try clear hfz11_0
        try clear hfz11_1
        try clear hfz11_2
        try clear hfz11_3
        try clear hfz11_4
        try clear hfz15_0
        try clear hfz15_1
        try clear hfz15_2
        try clear hfz15_3
        try clear hfz15_4
        try clear hfz18_0
        try clear hfz18_1
        try clear hfz18_2
        try clear hfz18_3
        try clear hfz18_4
        try clear hfz20_0
        try clear hfz20_1
        try clear hfz20_2
        try clear hfz20_3
        try clear hfz20_4
        try clear hfz28_0
        try clear hfz28_1
        try clear hfz28_2
        try clear hfz28_3
        try clear hfz28_4
        try clear hfz31_0
        try clear hfz31_1
        try clear hfz31_2
        try clear hfz32_0
        try clear hfz32_1
        try clear hfz32_2
        try clear hfz32_3
        try clear hfz32_4
        try clear hfz35_0
        try clear hfz35_1
        try clear hfz35_2
        try clear hfz39_0
        try clear hfz39_1
        try clear hfz39_2
        try clear hfz39_3
        try clear hfz39_4
        try clear hfz42_0
        try clear hfz42_1
        try clear hfz42_2
        try clear hfz43_0
        try clear hfz43_1
        try clear hfz43_2
        try clear hfz43_3
        try clear hfz43_4
        try clear hfz46_0
        try clear hfz46_1
        try clear hfz46_2
        try clear hfz50_0
        try clear hfz50_1
        try clear hfz50_2
        try clear hfz50_3
        try clear hfz50_4
        try clear hfz53_0
        try clear hfz53_1
        try clear hfz53_2
        try clear hfz54_0
        try clear hfz54_1
        try clear hfz54_2
        try clear hfz54_3
        try clear hfz54_4
        try clear hfz57_0
        try clear hfz57_1
        try clear hfz57_2
        try clear hfz58_0
        try clear hfz58_1
        try clear hfz58_2
        try clear hfz58_3
        try clear hfz58_4
        try clear hfz61_0
        try clear hfz61_1
        try clear hfz61_2
        try clear hfz62_0
        try clear hfz62_1
        try clear hfz62_2
        try clear hfz62_3
        try clear hfz62_4
        try clear hfz65_0
        try clear hfz65_1
        try clear hfz65_2
        try clear hfz69_0
        try clear hfz69_1
        try clear hfz69_2
        try clear hfz69_3
        try clear hfz69_4
        try clear hfz70_0
        try clear hfz70_1
        try clear hfz70_2
        try clear hfz70_3
        try clear hfz70_4
        try clear hfz71_0
        try clear hfz71_1
        try clear hfz71_2
        try clear hfz71_3
        try clear hfz71_4
        try clear hfz72_0
        try clear hfz72_1
        try clear hfz72_2
        try clear hfz72_3
        try clear hfz72_4
        try clear hfz7_0
        try clear hfz7_1
        try clear hfz7_2
        try clear hfz7_3
        try clear hfz7_4
        try clear hfz9_0
        try clear hfz9_1
        try clear hfz9_2
        try clear hfz9_3
        try clear hfz9_4
        try clear hx479_0
        try clear hx479_1
        try clear hx479_2
        try clear p2
        try clear p479
        try clear q479
        obtain ⟨x5_2, rfl, HA, HK2, BK474, HB⟩ := hrel
        cases gk with
        | zero => exact absurd HA.out (by simp [octroiref31_right.l1])
        | succ k2 =>
         have H := HA.out
         clear HA
         simp only [octroiref31_right.l1] at H
         by_cases c73 : x5_2 < (l0_4.length : Int)
         ·rw [if_pos c73] at H
          have c73b0 : decide (x5_2 < (l0_4.length : Int)) = true := decide_eq_true c73
          clear c73
          by_cases c74 : 0 ≤ x5_2
          ·rw [if_pos c74] at H
           have c74b0 : decide (0 ≤ x5_2) = true := decide_eq_true c74
           clear c74
           replace H := Option.bind_eq_some_iff.mp H
           obtain ⟨t486, A750, H⟩ := H
           replace H : (if t486 = true then (octroiref31_right.l1 k2 (wrap64 (x5_2 + 1)) a0_0 a0_1 a0_2 l0_3 l0_4) else (some false)) = some r := H
           have A75 := A0m A750
           clear A750
           by_cases c76 : t486 = true
           ·subst c76
            have H1 : (octroiref31_right.l1 k2 (wrap64 (x5_2 + 1)) a0_0 a0_1 a0_2 l0_3 l0_4) = some r := by rw [if_pos rfl] at H; exact H
            clear H
            have H := H1
            clear H1
            have H' := A0m H
            clear H
            have hcz77_0 : wr.cell? ⟨gb474, 0, none⟩ = some (.int .i64 a0_0) := (kC BK474.out 0).trans rfl
            have hcz77_1 : wr.cell? ⟨gb474, 1, none⟩ = some (.int .i64 a0_1) := (kC BK474.out 1).trans rfl
            have hcz77_2 : wr.cell? ⟨gb474, 2, none⟩ = some (.string a0_2) := (kC BK474.out 2).trans rfl
            have hcz77_3 : wr.cell? ⟨gb474, 3, none⟩ = some (.slice A0_3 l0_3.length c0_3) := (kC BK474.out 3).trans rfl
            have hcz77_4 : wr.cell? ⟨gb474, 4, none⟩ = some (.slice A0_4 l0_4.length c0_4) := (kC BK474.out 4).trans rfl
            have hfz77_0 := kF BK474.out 0
            have hfz77_1 := kF BK474.out 1
            have hfz77_2 := kF BK474.out 2
            have hfz77_3 := kF BK474.out 3
            have hfz77_4 := kF BK474.out 4
            have p485 : 0 ≤ (x5_2 : Int) := dT (by first | (with_reducible assumption) | assumption)
            have q485 : x5_2 < (l0_4.length : Int) := dT (by first | (with_reducible assumption) | assumption)
            obtain ⟨ad485, A485_3, c485_3, A485_4, c485_4, e485, hx485_0, hx485_1, hx485_2, hx485_3, hx485_4, hl485_3, hi485_3, hl485_4, hi485_4⟩ := at_T25 HR0_4.out x5_2 p485 q485
            cases e485
            replace hx485_0 := (HB.out.cell (wL w _ hx485_0)).trans hx485_0
            replace hx485_1 := (HB.out.cell (wL w _ hx485_1)).trans hx485_1
            replace hx485_2 := (HB.out.cell (wL w _ hx485_2)).trans hx485_2
            replace hx485_3 := (HB.out.cell (wL w _ hx485_3)).trans hx485_3
            replace hx485_4 := (HB.out.cell (wL w _ hx485_4)).trans hx485_4
            have HR485_3 := A0m hi485_3
            have HC485_3 := A0m hl485_3
            clear hi485_3 hl485_3
            have HR485_4 := A0m hi485_4
            have HC485_4 := A0m hl485_4
            clear hi485_4 hl485_4
            replace p485 := eq_true p485
            replace q485 := eq_true q485
            go_wp2_with (first | (go_at_call 62; (with_reducible refine (ih k2 (by have := HJ1.out; have := HK2.out; omega) ((rd_T25 l0_4 x5_2).f0) ((rd_T25 l0_4 x5_2).f1) ((rd_T25 l0_4 x5_2).f2) _ _ ((rd_T25 l0_4 x5_2).f3) _ _ ((rd_T25 l0_4 x5_2).f4) true _ ?side1 ?side2 ?side3 ?side4 A75.out).mono ?_); (case side1 => repeat (first | exact (Kd.C_below HR485_3.out HB.out) | (with_reducible refine Kd.C_alloc ?_ _) | (with_reducible refine Kd.C_drewN ?_ _) | (with_reducible refine Kd.C_drew ?_))); (case side2 => exact HC485_3.out); (case side3 => repeat (first | exact (Kd.C_below HR485_4.out HB.out) | (with_reducible refine Kd.C_alloc ?_ _) | (with_reducible refine Kd.C_drewN ?_ _) | (with_reducible refine Kd.C_drew ?_))); (case side4 => exact HC485_4.out); rintro e w78 ⟨rfl, hb⟩; have n0_ := A0m (blk_below (g := gb474) (o := .cells #[.int .i64 a0_0, .int .i64 a0_1, .string a0_2, .slice A0_3 l0_3.length c0_3, .slice (some ad485) l0_4.length c0_4] 25 (0, 0)) (by (with_reducible repeat (first | refine kN ?_ _ | refine kD ?_ | refine kA ?_ _)); exact BK474.out) hb); have n1_ := A0m (below_step (by repeat (first | (with_reducible first | exact HB.out | apply bA | apply bN | apply bD | refine bS ?_ GE474.out) | exact HB.out)) hb); clear BK474; clear HB; have BK474 := n0_; have HB := n1_; clear n0_ n1_; (try clear hb); (try clear hb2); (try clear hk); (try clear hi)))
            repeat (go_quiet (first | (go_at_call 62; (with_reducible refine (ih k2 (by have := HJ1.out; have := HK2.out; omega) ((rd_T25 l0_4 x5_2).f0) ((rd_T25 l0_4 x5_2).f1) ((rd_T25 l0_4 x5_2).f2) _ _ ((rd_T25 l0_4 x5_2).f3) _ _ ((rd_T25 l0_4 x5_2).f4) true _ ?side1 ?side2 ?side3 ?side4 A75.out).mono ?_); (case side1 => repeat (first | exact (Kd.C_below HR485_3.out HB.out) | (with_reducible refine Kd.C_alloc ?_ _) | (with_reducible refine Kd.C_drewN ?_ _) | (with_reducible refine Kd.C_drew ?_))); (case side2 => exact HC485_3.out); (case side3 => repeat (first | exact (Kd.C_below HR485_4.out HB.out) | (with_reducible refine Kd.C_alloc ?_ _) | (with_reducible refine Kd.C_drewN ?_ _) | (with_reducible refine Kd.C_drew ?_))); (case side4 => exact HC485_4.out); rintro e w78 ⟨rfl, hb⟩; have n0_ := A0m (blk_below (g := gb474) (o := .cells #[.int .i64 a0_0, .int .i64 a0_1, .string a0_2, .slice A0_3 l0_3.length c0_3, .slice (some ad485) l0_4.length c0_4] 25 (0, 0)) (by (with_reducible repeat (first | refine kN ?_ _ | refine kD ?_ | refine kA ?_ _)); exact BK474.out) hb); have n1_ := A0m (below_step (by repeat (first | (with_reducible first | exact HB.out | apply bA | apply bN | apply bD | refine bS ?_ GE474.out) | exact HB.out)) hb); clear BK474; clear HB; have BK474 := n0_; have HB := n1_; clear n0_ n1_; (try clear hb); (try clear hb2); (try clear hk); (try clear hi))); try go_wp2_with (first | (go_at_call 62; (with_reducible refine (ih k2 (by have := HJ1.out; have := HK2.out; omega) ((rd_T25 l0_4 x5_2).f0) ((rd_T25 l0_4 x5_2).f1) ((rd_T25 l0_4 x5_2).f2) _ _ ((rd_T25 l0_4 x5_2).f3) _ _ ((rd_T25 l0_4 x5_2).f4) true _ ?side1 ?side2 ?side3 ?side4 A75.out).mono ?_); (case side1 => repeat (first | exact (Kd.C_below HR485_3.out HB.out) | (with_reducible refine Kd.C_alloc ?_ _) | (with_reducible refine Kd.C_drewN ?_ _) | (with_reducible refine Kd.C_drew ?_))); (case side2 => exact HC485_3.out); (case side3 => repeat (first | exact (Kd.C_below HR485_4.out HB.out) | (with_reducible refine Kd.C_alloc ?_ _) | (with_reducible refine Kd.C_drewN ?_ _) | (with_reducible refine Kd.C_drew ?_))); (case side4 => exact HC485_4.out); rintro e w78 ⟨rfl, hb⟩; have n0_ := A0m (blk_below (g := gb474) (o := .cells #[.int .i64 a0_0, .int .i64 a0_1, .string a0_2, .slice A0_3 l0_3.length c0_3, .slice (some ad485) l0_4.length c0_4] 25 (0, 0)) (by (with_reducible repeat (first | refine kN ?_ _ | refine kD ?_ | refine kA ?_ _)); exact BK474.out) hb); have n1_ := A0m (below_step (by repeat (first | (with_reducible first | exact HB.out | apply bA | apply bN | apply bD | refine bS ?_ GE474.out) | exact HB.out)) hb); clear BK474; clear HB; have BK474 := n0_; have HB := n1_; clear n0_ n1_; (try clear hb); (try clear hb2); (try clear hk); (try clear hi))))
            go_roundg k2
            case measure => have := HJ1.out; have := HK2.out; omega
            case rel => exact ⟨(wrap64 (x5_2 + 1)), (by first | rfl | (simp; done) | (simp [*]; done)), H', ⟨by have := HJ1.out; have := HK2.out; omega⟩, ⟨by (with_reducible repeat (first | refine kN ?_ _ | refine kD ?_ | refine kA ?_ _)); exact BK474.out⟩, ⟨by repeat (first | (with_reducible first | exact HB.out | apply bA | apply bN | apply bD | refine bS ?_ GE474.out) | exact HB.out)⟩⟩
           ·replace c76 := Bool.eq_false_iff.mpr c76
            subst c76
            have H1 : (some false) = some r := by rw [if_neg (show ¬ (false = true) by decide)] at H; exact H
            clear H
            have H := H1
            clear H1
            obtain rfl := Option.some.inj H
            have hcz79_0 : wr.cell? ⟨gb474, 0, none⟩ = some (.int .i64 a0_0) := (kC BK474.out 0).trans rfl
            have hcz79_1 : wr.cell? ⟨gb474, 1, none⟩ = some (.int .i64 a0_1) := (kC BK474.out 1).trans rfl
            have hcz79_2 : wr.cell? ⟨gb474, 2, none⟩ = some (.string a0_2) := (kC BK474.out 2).trans rfl
            have hcz79_3 : wr.cell? ⟨gb474, 3, none⟩ = some (.slice A0_3 l0_3.length c0_3) := (kC BK474.out 3).trans rfl
            have hcz79_4 : wr.cell? ⟨gb474, 4, none⟩ = some (.slice A0_4 l0_4.length c0_4) := (kC BK474.out 4).trans rfl
            have hfz79_0 := kF BK474.out 0
            have hfz79_1 := kF BK474.out 1
            have hfz79_2 := kF BK474.out 2
            have hfz79_3 := kF BK474.out 3
            have hfz79_4 := kF BK474.out 4
            have p485 : 0 ≤ (x5_2 : Int) := dT (by first | (with_reducible assumption) | assumption)
            have q485 : x5_2 < (l0_4.length : Int) := dT (by first | (with_reducible assumption) | assumption)
            obtain ⟨ad485, A485_3, c485_3, A485_4, c485_4, e485, hx485_0, hx485_1, hx485_2, hx485_3, hx485_4, hl485_3, hi485_3, hl485_4, hi485_4⟩ := at_T25 HR0_4.out x5_2 p485 q485
            cases e485
            replace hx485_0 := (HB.out.cell (wL w _ hx485_0)).trans hx485_0
            replace hx485_1 := (HB.out.cell (wL w _ hx485_1)).trans hx485_1
            replace hx485_2 := (HB.out.cell (wL w _ hx485_2)).trans hx485_2
            replace hx485_3 := (HB.out.cell (wL w _ hx485_3)).trans hx485_3
            replace hx485_4 := (HB.out.cell (wL w _ hx485_4)).trans hx485_4
            have HR485_3 := A0m hi485_3
            have HC485_3 := A0m hl485_3
            clear hi485_3 hl485_3
            have HR485_4 := A0m hi485_4
            have HC485_4 := A0m hl485_4
            clear hi485_4 hl485_4
            replace p485 := eq_true p485
            replace q485 := eq_true q485
            go_wp2_with (first | (go_at_call 62; (with_reducible refine (ih k2 (by have := HJ1.out; have := HK2.out; omega) ((rd_T25 l0_4 x5_2).f0) ((rd_T25 l0_4 x5_2).f1) ((rd_T25 l0_4 x5_2).f2) _ _ ((rd_T25 l0_4 x5_2).f3) _ _ ((rd_T25 l0_4 x5_2).f4) false _ ?side1 ?side2 ?side3 ?side4 A75.out).mono ?_); (case side1 => repeat (first | exact (Kd.C_below HR485_3.out HB.out) | (with_reducible refine Kd.C_alloc ?_ _) | (with_reducible refine Kd.C_drewN ?_ _) | (with_reducible refine Kd.C_drew ?_))); (case side2 => exact HC485_3.out); (case side3 => repeat (first | exact (Kd.C_below HR485_4.out HB.out) | (with_reducible refine Kd.C_alloc ?_ _) | (with_reducible refine Kd.C_drewN ?_ _) | (with_reducible refine Kd.C_drew ?_))); (case side4 => exact HC485_4.out); rintro e w80 ⟨rfl, hb⟩; have n0_ := A0m (blk_below (g := gb474) (o := .cells #[.int .i64 a0_0, .int .i64 a0_1, .string a0_2, .slice A0_3 l0_3.length c0_3, .slice (some ad485) l0_4.length c0_4] 25 (0, 0)) (by (with_reducible repeat (first | refine kN ?_ _ | refine kD ?_ | refine kA ?_ _)); exact BK474.out) hb); have n1_ := A0m (below_step (by repeat (first | (with_reducible first | exact HB.out | apply bA | apply bN | apply bD | refine bS ?_ GE474.out) | exact HB.out)) hb); clear BK474; clear HB; have BK474 := n0_; have HB := n1_; clear n0_ n1_; (try clear hb); (try clear hb2); (try clear hk); (try clear hi)))
            repeat (go_quiet (first | (go_at_call 62; (with_reducible refine (ih k2 (by have := HJ1.out; have := HK2.out; omega) ((rd_T25 l0_4 x5_2).f0) ((rd_T25 l0_4 x5_2).f1) ((rd_T25 l0_4 x5_2).f2) _ _ ((rd_T25 l0_4 x5_2).f3) _ _ ((rd_T25 l0_4 x5_2).f4) false _ ?side1 ?side2 ?side3 ?side4 A75.out).mono ?_); (case side1 => repeat (first | exact (Kd.C_below HR485_3.out HB.out) | (with_reducible refine Kd.C_alloc ?_ _) | (with_reducible refine Kd.C_drewN ?_ _) | (with_reducible refine Kd.C_drew ?_))); (case side2 => exact HC485_3.out); (case side3 => repeat (first | exact (Kd.C_below HR485_4.out HB.out) | (with_reducible refine Kd.C_alloc ?_ _) | (with_reducible refine Kd.C_drewN ?_ _) | (with_reducible refine Kd.C_drew ?_))); (case side4 => exact HC485_4.out); rintro e w80 ⟨rfl, hb⟩; have n0_ := A0m (blk_below (g := gb474) (o := .cells #[.int .i64 a0_0, .int .i64 a0_1, .string a0_2, .slice A0_3 l0_3.length c0_3, .slice (some ad485) l0_4.length c0_4] 25 (0, 0)) (by (with_reducible repeat (first | refine kN ?_ _ | refine kD ?_ | refine kA ?_ _)); exact BK474.out) hb); have n1_ := A0m (below_step (by repeat (first | (with_reducible first | exact HB.out | apply bA | apply bN | apply bD | refine bS ?_ GE474.out) | exact HB.out)) hb); clear BK474; clear HB; have BK474 := n0_; have HB := n1_; clear n0_ n1_; (try clear hb); (try clear hb2); (try clear hk); (try clear hi))); try go_wp2_with (first | (go_at_call 62; (with_reducible refine (ih k2 (by have := HJ1.out; have := HK2.out; omega) ((rd_T25 l0_4 x5_2).f0) ((rd_T25 l0_4 x5_2).f1) ((rd_T25 l0_4 x5_2).f2) _ _ ((rd_T25 l0_4 x5_2).f3) _ _ ((rd_T25 l0_4 x5_2).f4) false _ ?side1 ?side2 ?side3 ?side4 A75.out).mono ?_); (case side1 => repeat (first | exact (Kd.C_below HR485_3.out HB.out) | (with_reducible refine Kd.C_alloc ?_ _) | (with_reducible refine Kd.C_drewN ?_ _) | (with_reducible refine Kd.C_drew ?_))); (case side2 => exact HC485_3.out); (case side3 => repeat (first | exact (Kd.C_below HR485_4.out HB.out) | (with_reducible refine Kd.C_alloc ?_ _) | (with_reducible refine Kd.C_drewN ?_ _) | (with_reducible refine Kd.C_drew ?_))); (case side4 => exact HC485_4.out); rintro e w80 ⟨rfl, hb⟩; have n0_ := A0m (blk_below (g := gb474) (o := .cells #[.int .i64 a0_0, .int .i64 a0_1, .string a0_2, .slice A0_3 l0_3.length c0_3, .slice (some ad485) l0_4.length c0_4] 25 (0, 0)) (by (with_reducible repeat (first | refine kN ?_ _ | refine kD ?_ | refine kA ?_ _)); exact BK474.out) hb); have n1_ := A0m (below_step (by repeat (first | (with_reducible first | exact HB.out | apply bA | apply bN | apply bD | refine bS ?_ GE474.out) | exact HB.out)) hb); clear BK474; clear HB; have BK474 := n0_; have HB := n1_; clear n0_ n1_; (try clear hb); (try clear hb2); (try clear hk); (try clear hi))))
            go_ret
            exact ⟨by first | rfl | (simp [errW_none, errW_some] <;> rfl) | (simp [*, errW_none, errW_some] <;> rfl), by repeat (first | (with_reducible first | exact HB.out | apply bA | apply bN | apply bD | refine bS ?_ GE474.out) | exact HB.out)⟩
          ·rw [if_neg c74] at H
           exact absurd H (by simp)
         ·rw [if_neg c73] at H
          have c73b0 : decide (x5_2 < (l0_4.length : Int)) = false := decide_eq_false c73
          clear c73
          obtain rfl := Option.some.inj H
          have hcz81_0 : wr.cell? ⟨gb474, 0, none⟩ = some (.int .i64 a0_0) := (kC BK474.out 0).trans rfl
          have hcz81_1 : wr.cell? ⟨gb474, 1, none⟩ = some (.int .i64 a0_1) := (kC BK474.out 1).trans rfl
          have hcz81_2 : wr.cell? ⟨gb474, 2, none⟩ = some (.string a0_2) := (kC BK474.out 2).trans rfl
          have hcz81_3 : wr.cell? ⟨gb474, 3, none⟩ = some (.slice A0_3 l0_3.length c0_3) := (kC BK474.out 3).trans rfl
          have hcz81_4 : wr.cell? ⟨gb474, 4, none⟩ = some (.slice A0_4 l0_4.length c0_4) := (kC BK474.out 4).trans rfl
          have hfz81_0 := kF BK474.out 0
          have hfz81_1 := kF BK474.out 1
          have hfz81_2 := kF BK474.out 2
          have hfz81_3 := kF BK474.out 3
          have hfz81_4 := kF BK474.out 4
          go_wp2
          repeat (go_quiet (fail); try go_wp2)
          go_ret
          exact ⟨by first | rfl | (simp [errW_none, errW_some] <;> rfl) | (simp [*, errW_none, errW_some] <;> rfl), by repeat (first | (with_reducible first | exact HB.out | apply bA | apply bN | apply bD | refine bS ?_ GE474.out) | exact HB.out)⟩

end Go.Proofs.YtnaglnifpejpjaaGreatDoor.XEvalRuns
