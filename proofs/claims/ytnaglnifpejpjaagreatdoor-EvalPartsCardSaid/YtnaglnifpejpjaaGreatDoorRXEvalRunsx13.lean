-- WRITTEN BY wip/xprint.py (my own wrapper round the print, with contracts of my own in it)
import Derived.Test.YtnaglnifpejpjaaGreatDoorRXEvalRunsx0
import Derived.Test.YtnaglnifpejpjaaGreatDoorRXEvalRunsx11
import Derived.Test.YtnaglnifpejpjaaGreatDoorRXEvalRunsx12
namespace Go.Proofs.YtnaglnifpejpjaaGreatDoor.XEvalRuns
open Go.RowKit Go.Proofs.YtnaglnifpejpjaaGreatDoorW.PrintWords Go.Proofs.YtnaglnifpejpjaaGreatDoorW.PrintLast Go.Proofs.YtnaglnifpejpjaaGreatDoorW.PrintMore
attribute [local go_sem] max2_int min2_int max_two min_two max_three min_three max_four min_four   -- for this text's walks alone
set_option linter.unusedVariables false
set_option linter.unusedSimpArgs false

theorem fd35_79_1 (c0 c1 : Value) (w : World) : (Instr.field 79 (.agg #[c0, c1]) 1).run Tryz.prog w = .ok c1 w := RowTake.field_run 79 1 _ _ _ Tryz.underlying79 rfl Tryz.underlying49 rfl _ _ rfl w
attribute [local go_sem] fd35_79_1
/-! ### octroiref01_Int: function 35 -/
def octroiref01_Int.l0 : Nat → Int → Int → Bool → List Int → Option (Int × Bool)
 | 0, _, _, _, _ => none
 | k + 1, x4, x5, x379000, x379001 => if x5 ≥ 0 then (if 0 ≤ x5 then (if x5 < (x379001.length : Int) then (octroiref01_Int.l0 k (wrap64 ((wrap64 (x4 * 2147483648)) + (rd x379001 x5))) (wrap64 (x5 - 1)) x379000 x379001) else (none)) else (none)) else (if x379000 = true then (some (wrap64 (-x4), true)) else (some (x4, true)))
def octroiref01_Int.f (k : Nat) (a0_0 : Bool) (l0_1 : List Int) : Option (Int × Bool) := (octroiref01_Of.f k 4611686018427387904).bind fun bt379 => ((octroiref01_cmp.f k l0_1 bt379.2).bind fun t383 => (if t383 > 0 then (some (0, false)) else (octroiref01_Int.l0 k 0 (wrap64 ((l0_1.length : Int) - 1)) a0_0 l0_1)))
set_option maxHeartbeats 8000000 in
set_option maxRecDepth 100000 in
theorem octroiref01_Int.calls (k : Nat) (a0_0 : Bool) (A0_1 : Option Addr) (c0_1 : Nat) (l0_1 : List Int) (r1 : Int) (r2 : Bool) (w : World) (hr0_1 : Kd.C (Kd.int .i64) w A0_1 l0_1.length l0_1) (hc0_1 : l0_1.length ≤ c0_1) (h : octroiref01_Int.f k a0_0 l0_1 = some (r1, r2)) :
  Calls Tryz.prog 35 #[.agg #[.bool a0_0, .slice A0_1 l0_1.length c0_1]] w fun e w' => e = .returned (.tuple #[.int .i64 r1, .bool r2]) ∧ Below w.heap.size w w' := by
 have hu79 := Tryz.underlying79
 have HR0_1 := A0m hr0_1
 have HC0_1 := A0m hc0_1
 clear hr0_1 hc0_1
 have HB := A0m (Below.refl w.heap.size w)
 have H : ((octroiref01_Of.f k 4611686018427387904).bind fun bt379 => ((octroiref01_cmp.f k l0_1 bt379.2).bind fun t383 => (if t383 > 0 then (some (0, false)) else (octroiref01_Int.l0 k 0 (wrap64 ((l0_1.length : Int) - 1)) a0_0 l0_1)))) = some (r1, r2) := h
 clear h
 replace H := Option.bind_eq_some_iff.mp H
 obtain ⟨⟨t379, t380⟩, A20, H⟩ := H
 replace H : ((octroiref01_cmp.f k l0_1 t380).bind fun t383 => (if t383 > 0 then (some (0, false)) else (octroiref01_Int.l0 k 0 (wrap64 ((l0_1.length : Int) - 1)) a0_0 l0_1))) = some (r1, r2) := H
 have A2 := A0m A20
 clear A20
 replace H := Option.bind_eq_some_iff.mp H
 obtain ⟨t383, A30, H⟩ := H
 replace H : (if t383 > 0 then (some (0, false)) else (octroiref01_Int.l0 k 0 (wrap64 ((l0_1.length : Int) - 1)) a0_0 l0_1)) = some (r1, r2) := H
 have A3 := A0m A30
 clear A30
 by_cases c4 : t383 > 0
 ·rw [if_pos c4] at H
  have c4b0 : decide (0 < t383) = true := decide_eq_true c4
  clear c4
  simp only [Option.some.injEq, Prod.mk.injEq] at H
  obtain ⟨rfl, rfl⟩ := H
  go_enter Tryz.func35, Tryz.ntmps35
  try go_wp2_with (first | ((with_reducible refine gate_dst (N := 1) rfl ?_); refine box_event ?hg (N := 1) ?hd (cs := #[.bool a0_0, .slice A0_1 l0_1.length c0_1]) (t := 79) ?hr ?_; (case hd => rfl); (case hg => rfl); (case hr => first | (go_simp; done) | (go_simp; rfl)); intro gb378 hg w5 hbox hb; have n0_ := A0m (below_step (by repeat (first | (with_reducible first | exact HB.out | apply bA | apply bN | apply bD) | exact HB.out)) hb); have n1_ := A0m (hbox); have n2_ := A0m ((by rw [hg]; exact (below_size (by repeat (first | (with_reducible first | exact HB.out | apply bA | apply bN | apply bD) | exact HB.out))) : w.heap.size ≤ gb378)); have n3_ := A0m ((by rw [hg]; exact (below_size (by repeat (first | (with_reducible first | exact HB.out | apply bA | apply bN | apply bD) | exact HB.out))) : w.heap.size ≤ gb378)); clear HB; have HB := n0_; have BK378 := n1_; have GW378 := n2_; have GE378 := n3_; clear n0_ n1_ n2_ n3_; clear hb hbox hg))
  have n0_ := A0m (kD BK378.out)
  have n1_ := A0m (bD HB.out)
  clear BK378
  clear HB
  have BK378 := n0_
  have HB := n1_
  clear n0_ n1_
  refine start_ (n := 6) (S := fun w' => w'.cell? ⟨gb378, 0, none⟩ = some (.bool a0_0) ∧ w'.cell? ⟨gb378, 1, none⟩ = some (.slice A0_1 l0_1.length c0_1)) (ds := []) #[false, false, false, false, false, false] (by kernel_rfl) rfl rfl ⟨(kC BK378.out 0).trans rfl, (kC BK378.out 1).trans rfl⟩ (fun hHeld => ?_)
  generalize w5.drew = w6 at BK378 HB hHeld ⊢
  refine pure_ (i := 0) (N := some 6) (v := ?_) (a' := ?_) #[true, false, false, false, false, false] rfl rfl (by kernel_rfl) (fun _ _ _ h => h) (Or.inl ⟨by rfl, ?_⟩) ?_ ?_
  rotate_left
  ·intro w'
   go_simp
   with_reducible rfl
  rotate_left
  ·simp only [Act.put, sT, sZ, sS, i64_w, i32_w]
   rfl
  refine take_ (i := 1) (N := some 7) (v := ?_) (a' := ?_) #[true, true, false, false, false, false] rfl rfl (by kernel_rfl) (fun _ _ _ h => h) (Or.inl ⟨by rfl, ?_⟩) hHeld ?_ ?_
  rotate_left
  ·rintro w' ⟨s0, s1⟩
   go_simp
   with_reducible rfl
  rotate_left
  ·simp only [Act.put, sT, sZ, sS, i64_w, i32_w]
   rfl
  refine one_ (i := 2) (N := some 8) #[true, true, true, false, false, false] rfl rfl (by kernel_rfl) (by decide) (fun K hK => ?_)
  refine goes_ Tryz.func34 (by kernel_rfl) rfl #[.int .i64 4611686018427387904] (by rfl) rfl rfl (by (try simp only [List.map_toArray, List.map_cons, List.map_nil]); first | done | rfl | (simp only [List.length_drop, List.length_take]; rfl)) ?_
  with_reducible refine (octroiref01_Of.calls k 4611686018427387904 t379 t380 _ A2.out).mono ?_
  rintro e w7 ⟨v381, rfl, ho0, hb⟩
  refine ⟨_, rfl, ?_⟩
  have n0_ := A0m (Kd.R_lower ho0 (below_size (by repeat (first | (with_reducible first | exact HB.out | apply bA | apply bN | apply bD | refine bS ?_ GE378.out) | exact HB.out))))
  have n1_ := A0m (blk_below (g := gb378) (o := .cells #[.bool a0_0, .slice A0_1 l0_1.length c0_1] 79 (0, 0)) (by (with_reducible repeat (first | refine kN ?_ _ | refine kD ?_ | refine kA ?_ _)); exact BK378.out) hb)
  have n2_ := A0m (below_step (by repeat (first | (with_reducible first | exact HB.out | apply bA | apply bN | apply bD | refine bS ?_ GE378.out) | exact HB.out)) hb)
  clear BK378
  clear HB
  have HO382 := n0_
  have BK378 := n1_
  have HB := n2_
  clear n0_ n1_ n2_
  (try clear hb)
  (try clear hb2)
  (try clear hk)
  (try clear hi)
  (try clear ho0)
  obtain ⟨Ao8, co8, eo8⟩ := Kd.R_slice HO382.out
  (first | subst eo8 | (injection eo8 with f1_ f2_ f3_; have f4_ := f1_.symm; have f5_ := f3_.symm; clear f1_ f2_ f3_; subst f4_; subst f5_))
  refine hK.out _ _ ⟨(kC BK378.out 0).trans rfl, (kC BK378.out 1).trans rfl⟩ (fun hHeld => ?_)
  clear hK K
  refine norm_ (a' := ?_) ?_ ?_
  rotate_left
  ·show Act.put _ (some 8) _ = _
   simp only [Act.put, sT, sZ, sS, i64_w, i32_w]
   rfl
  refine pure_ (i := 3) (N := some 9) (v := ?_) (a' := ?_) #[true, true, true, true, false, false] rfl rfl (by kernel_rfl) (fun _ _ _ h => h) (Or.inl ⟨by rfl, ?_⟩) ?_ ?_
  rotate_left
  ·intro w'
   go_simp
   with_reducible rfl
  rotate_left
  ·simp only [Act.put, sT, sZ, sS, i64_w, i32_w]
   rfl
  refine one_ (i := 4) (N := some 10) #[true, true, true, true, true, false] rfl rfl (by kernel_rfl) (by decide) (fun K hK => ?_)
  refine goes_ Tryz.func70 (by kernel_rfl) rfl #[.slice A0_1 l0_1.length c0_1, .slice Ao8 t380.length co8] (by rfl) rfl rfl (by (try simp only [List.map_toArray, List.map_cons, List.map_nil]); first | done | rfl | (simp only [List.length_drop, List.length_take]; rfl)) ?_
  with_reducible refine (octroiref01_cmp.calls k _ _ l0_1 _ _ t380 t383 _ ?side1 ?side2 ?side3 ?side4 A3.out).mono ?_
  (case side1 => repeat (first | exact (Kd.C_below HR0_1.out HB.out) | (with_reducible refine Kd.C_alloc ?_ _) | (with_reducible refine Kd.C_drewN ?_ _) | (with_reducible refine Kd.C_drew ?_)))
  (case side2 => exact HC0_1.out)
  (case side3 => repeat (first | exact (Kd.R_reads' HO382.out).2.2 | (with_reducible refine Kd.C_alloc ?_ _) | (with_reducible refine Kd.C_drewN ?_ _) | (with_reducible refine Kd.C_drew ?_)))
  (case side4 => exact (Kd.R_reads' HO382.out).2.1)
  rintro e w' ⟨rfl, ⟨nd, rfl⟩⟩
  refine ⟨_, rfl, ?_⟩
  refine hK.out _ _ ⟨(kC BK378.out 0).trans rfl, (kC BK378.out 1).trans rfl⟩ (fun hHeld => ?_)
  clear hK K
  refine norm_ (a' := ?_) ?_ ?_
  rotate_left
  ·show Act.put _ (some 10) _ = _
   simp only [Act.put, sT, sZ, sS, i64_w, i32_w]
   rfl
  refine pure_ (i := 5) (N := some 11) (v := ?_) (a' := ?_) #[true, true, true, true, true, true] rfl rfl (by kernel_rfl) (fun _ _ _ h => h) (Or.inl ⟨by rfl, ?_⟩) ?_ ?_
  rotate_left
  ·intro w'
   go_simp
   with_reducible rfl
  rotate_left
  ·simp only [Act.put, sT, sZ, sS, i64_w, i32_w]
   rfl
  refine done_ (by kernel_rfl) ?_
  try go_wp2
  go_ret2
  exact ⟨by first | rfl | (simp [errW_none, errW_some] <;> rfl) | (simp [*, errW_none, errW_some] <;> rfl), by repeat (first | (with_reducible first | exact HB.out | apply bA | apply bN | apply bD | refine bS ?_ GE378.out) | exact HB.out)⟩
 ·rw [if_neg c4] at H
  have c4b0 : decide (0 < t383) = false := decide_eq_false c4
  clear c4
  have H' := A0m H
  clear H
  go_enter Tryz.func35, Tryz.ntmps35
  try go_wp2_with (first | ((with_reducible refine gate_dst (N := 1) rfl ?_); refine box_event ?hg (N := 1) ?hd (cs := #[.bool a0_0, .slice A0_1 l0_1.length c0_1]) (t := 79) ?hr ?_; (case hd => rfl); (case hg => rfl); (case hr => first | (go_simp; done) | (go_simp; rfl)); intro gb378 hg w9 hbox hb; have n0_ := A0m (below_step (by repeat (first | (with_reducible first | exact HB.out | apply bA | apply bN | apply bD) | exact HB.out)) hb); have n1_ := A0m (hbox); have n2_ := A0m ((by rw [hg]; exact (below_size (by repeat (first | (with_reducible first | exact HB.out | apply bA | apply bN | apply bD) | exact HB.out))) : w.heap.size ≤ gb378)); have n3_ := A0m ((by rw [hg]; exact (below_size (by repeat (first | (with_reducible first | exact HB.out | apply bA | apply bN | apply bD) | exact HB.out))) : w.heap.size ≤ gb378)); clear HB; have HB := n0_; have BK378 := n1_; have GW378 := n2_; have GE378 := n3_; clear n0_ n1_ n2_ n3_; clear hb hbox hg))
  have n0_ := A0m (kD BK378.out)
  have n1_ := A0m (bD HB.out)
  clear BK378
  clear HB
  have BK378 := n0_
  have HB := n1_
  clear n0_ n1_
  refine start_ (n := 6) (S := fun w' => w'.cell? ⟨gb378, 0, none⟩ = some (.bool a0_0) ∧ w'.cell? ⟨gb378, 1, none⟩ = some (.slice A0_1 l0_1.length c0_1)) (ds := []) #[false, false, false, false, false, false] (by kernel_rfl) rfl rfl ⟨(kC BK378.out 0).trans rfl, (kC BK378.out 1).trans rfl⟩ (fun hHeld => ?_)
  generalize w9.drew = w10 at BK378 HB hHeld ⊢
  refine pure_ (i := 0) (N := some 6) (v := ?_) (a' := ?_) #[true, false, false, false, false, false] rfl rfl (by kernel_rfl) (fun _ _ _ h => h) (Or.inl ⟨by rfl, ?_⟩) ?_ ?_
  rotate_left
  ·intro w'
   go_simp
   with_reducible rfl
  rotate_left
  ·simp only [Act.put, sT, sZ, sS, i64_w, i32_w]
   rfl
  refine take_ (i := 1) (N := some 7) (v := ?_) (a' := ?_) #[true, true, false, false, false, false] rfl rfl (by kernel_rfl) (fun _ _ _ h => h) (Or.inl ⟨by rfl, ?_⟩) hHeld ?_ ?_
  rotate_left
  ·rintro w' ⟨s0, s1⟩
   go_simp
   with_reducible rfl
  rotate_left
  ·simp only [Act.put, sT, sZ, sS, i64_w, i32_w]
   rfl
  refine one_ (i := 2) (N := some 8) #[true, true, true, false, false, false] rfl rfl (by kernel_rfl) (by decide) (fun K hK => ?_)
  refine goes_ Tryz.func34 (by kernel_rfl) rfl #[.int .i64 4611686018427387904] (by rfl) rfl rfl (by (try simp only [List.map_toArray, List.map_cons, List.map_nil]); first | done | rfl | (simp only [List.length_drop, List.length_take]; rfl)) ?_
  with_reducible refine (octroiref01_Of.calls k 4611686018427387904 t379 t380 _ A2.out).mono ?_
  rintro e w11 ⟨v381, rfl, ho0, hb⟩
  refine ⟨_, rfl, ?_⟩
  have n0_ := A0m (Kd.R_lower ho0 (below_size (by repeat (first | (with_reducible first | exact HB.out | apply bA | apply bN | apply bD | refine bS ?_ GE378.out) | exact HB.out))))
  have n1_ := A0m (blk_below (g := gb378) (o := .cells #[.bool a0_0, .slice A0_1 l0_1.length c0_1] 79 (0, 0)) (by (with_reducible repeat (first | refine kN ?_ _ | refine kD ?_ | refine kA ?_ _)); exact BK378.out) hb)
  have n2_ := A0m (below_step (by repeat (first | (with_reducible first | exact HB.out | apply bA | apply bN | apply bD | refine bS ?_ GE378.out) | exact HB.out)) hb)
  clear BK378
  clear HB
  have HO382 := n0_
  have BK378 := n1_
  have HB := n2_
  clear n0_ n1_ n2_
  (try clear hb)
  (try clear hb2)
  (try clear hk)
  (try clear hi)
  (try clear ho0)
  obtain ⟨Ao12, co12, eo12⟩ := Kd.R_slice HO382.out
  (first | subst eo12 | (injection eo12 with f1_ f2_ f3_; have f4_ := f1_.symm; have f5_ := f3_.symm; clear f1_ f2_ f3_; subst f4_; subst f5_))
  refine hK.out _ _ ⟨(kC BK378.out 0).trans rfl, (kC BK378.out 1).trans rfl⟩ (fun hHeld => ?_)
  clear hK K
  refine norm_ (a' := ?_) ?_ ?_
  rotate_left
  ·show Act.put _ (some 8) _ = _
   simp only [Act.put, sT, sZ, sS, i64_w, i32_w]
   rfl
  refine pure_ (i := 3) (N := some 9) (v := ?_) (a' := ?_) #[true, true, true, true, false, false] rfl rfl (by kernel_rfl) (fun _ _ _ h => h) (Or.inl ⟨by rfl, ?_⟩) ?_ ?_
  rotate_left
  ·intro w'
   go_simp
   with_reducible rfl
  rotate_left
  ·simp only [Act.put, sT, sZ, sS, i64_w, i32_w]
   rfl
  refine one_ (i := 4) (N := some 10) #[true, true, true, true, true, false] rfl rfl (by kernel_rfl) (by decide) (fun K hK => ?_)
  refine goes_ Tryz.func70 (by kernel_rfl) rfl #[.slice A0_1 l0_1.length c0_1, .slice Ao12 t380.length co12] (by rfl) rfl rfl (by (try simp only [List.map_toArray, List.map_cons, List.map_nil]); first | done | rfl | (simp only [List.length_drop, List.length_take]; rfl)) ?_
  with_reducible refine (octroiref01_cmp.calls k _ _ l0_1 _ _ t380 t383 _ ?side1 ?side2 ?side3 ?side4 A3.out).mono ?_
  (case side1 => repeat (first | exact (Kd.C_below HR0_1.out HB.out) | (with_reducible refine Kd.C_alloc ?_ _) | (with_reducible refine Kd.C_drewN ?_ _) | (with_reducible refine Kd.C_drew ?_)))
  (case side2 => exact HC0_1.out)
  (case side3 => repeat (first | exact (Kd.R_reads' HO382.out).2.2 | (with_reducible refine Kd.C_alloc ?_ _) | (with_reducible refine Kd.C_drewN ?_ _) | (with_reducible refine Kd.C_drew ?_)))
  (case side4 => exact (Kd.R_reads' HO382.out).2.1)
  rintro e w' ⟨rfl, ⟨nd, rfl⟩⟩
  refine ⟨_, rfl, ?_⟩
  refine hK.out _ _ ⟨(kC BK378.out 0).trans rfl, (kC BK378.out 1).trans rfl⟩ (fun hHeld => ?_)
  clear hK K
  refine norm_ (a' := ?_) ?_ ?_
  rotate_left
  ·show Act.put _ (some 10) _ = _
   simp only [Act.put, sT, sZ, sS, i64_w, i32_w]
   rfl
  refine pure_ (i := 5) (N := some 11) (v := ?_) (a' := ?_) #[true, true, true, true, true, true] rfl rfl (by kernel_rfl) (fun _ _ _ h => h) (Or.inl ⟨by rfl, ?_⟩) ?_ ?_
  rotate_left
  ·intro w'
   go_simp
   with_reducible rfl
  rotate_left
  ·simp only [Act.put, sT, sZ, sS, i64_w, i32_w]
   rfl
  refine done_ (by kernel_rfl) ?_
  have hcz13_0 : w11.cell? ⟨gb378, 0, none⟩ = some (.bool a0_0) := (kC BK378.out 0).trans rfl
  have hcz13_1 : w11.cell? ⟨gb378, 1, none⟩ = some (.slice A0_1 l0_1.length c0_1) := (kC BK378.out 1).trans rfl
  have hfz13_0 := kF BK378.out 0
  have hfz13_1 := kF BK378.out 1
  try go_wp2
  go_loopg [4, 5] k (fun kq v4 v5 w' => ∃ (x4_1 : Int) (x5_1 : Int), v4 = .int .i64 x4_1 ∧ v5 = .int .i64 x5_1 ∧ Aside0 (octroiref01_Int.l0 kq x4_1 x5_1 a0_0 l0_1 = some (r1, r2)) ∧ Aside0 (kq ≤ k) ∧ Aside0 (w'.heap[gb378]? = some (.cells #[.bool a0_0, (.slice A0_1 l0_1.length c0_1)] 79 (0, 0))) ∧ Aside0 (Below w.heap.size w w'))
  case atStart => exact ⟨(0), (wrap64 ((l0_1.length : Int) - 1)), (by first | rfl | (simp; done) | (simp [*]; done)), (by first | rfl | (simp; done) | (simp [*]; done)), H', ⟨Nat.le_refl _⟩, ⟨by (with_reducible repeat (first | refine kN ?_ _ | refine kD ?_ | refine kA ?_ _)); exact BK378.out⟩, ⟨by repeat (first | (with_reducible first | exact HB.out | apply bA | apply bN | apply bD | refine bS ?_ GE378.out) | exact HB.out)⟩⟩
  case round =>
   clear H'
   try clear p2
   try clear c3
   try clear c4
   try clear c4b0
   try clear p6
   try clear c7
   try clear hcz13_0
   try clear hcz13_1
   try clear hfz13_0
   try clear hfz13_1
   obtain ⟨x4_1, x5_1, rfl, rfl, HA, HK1, BK378, HB⟩ := hrel
   cases gk with
   | zero => exact absurd HA.out (by simp [octroiref01_Int.l0])
   | succ k1 =>
    have H := HA.out
    clear HA
    simp only [octroiref01_Int.l0] at H
    by_cases c14 : x5_1 ≥ 0
    ·rw [if_pos c14] at H
     have c14b0 : decide (0 ≤ x5_1) = true := decide_eq_true c14
     clear c14
     by_cases c15 : 0 ≤ x5_1
     ·rw [if_pos c15] at H
      have c15b0 : decide (0 ≤ x5_1) = true := decide_eq_true c15
      clear c15
      by_cases c16 : x5_1 < (l0_1.length : Int)
      ·rw [if_pos c16] at H
       have c16b0 : decide (x5_1 < (l0_1.length : Int)) = true := decide_eq_true c16
       clear c16
       have H' := A0m H
       clear H
       have hcz17_0 : wr.cell? ⟨gb378, 0, none⟩ = some (.bool a0_0) := (kC BK378.out 0).trans rfl
       have hcz17_1 : wr.cell? ⟨gb378, 1, none⟩ = some (.slice A0_1 l0_1.length c0_1) := (kC BK378.out 1).trans rfl
       have hfz17_0 := kF BK378.out 0
       have hfz17_1 := kF BK378.out 1
       have p384 : 0 ≤ (x5_1 : Int) := dT (by first | (with_reducible assumption) | assumption)
       have q384 : x5_1 < (l0_1.length : Int) := dT (by first | (with_reducible assumption) | assumption)
       obtain ⟨ad384, e384, hx384_0⟩ := Kd.at_int HR0_1.out x5_1 p384 q384
       cases e384
       replace hx384_0 := (HB.out.cell (wL w _ hx384_0)).trans hx384_0
       replace p384 := eq_true p384
       replace q384 := eq_true q384
       go_wp2
       go_roundg k1
       case measure => have := HK1.out; omega
       case rel => exact ⟨(wrap64 ((wrap64 (x4_1 * 2147483648)) + (rd l0_1 x5_1))), (wrap64 (x5_1 - 1)), (by first | rfl | (simp; done) | (simp [*]; done)), (by first | rfl | (simp; done) | (simp [*]; done)), H', ⟨by have := HK1.out; omega⟩, ⟨by (with_reducible repeat (first | refine kN ?_ _ | refine kD ?_ | refine kA ?_ _)); exact BK378.out⟩, ⟨by repeat (first | (with_reducible first | exact HB.out | apply bA | apply bN | apply bD | refine bS ?_ GE378.out) | exact HB.out)⟩⟩
      ·rw [if_neg c16] at H
       exact absurd H (by simp)
     ·rw [if_neg c15] at H
      exact absurd H (by simp)
    ·rw [if_neg c14] at H
     have c14b0 : decide (0 ≤ x5_1) = false := decide_eq_false c14
     clear c14
     by_cases c18 : a0_0 = true
     ·subst c18
      have H1 : (some (wrap64 (-x4_1), true)) = some (r1, r2) := by rw [if_pos rfl] at H; exact H
      clear H
      have H := H1
      clear H1
      simp only [Option.some.injEq, Prod.mk.injEq] at H
      obtain ⟨rfl, rfl⟩ := H
      have hcz19_0 : wr.cell? ⟨gb378, 0, none⟩ = some (.bool true) := (kC BK378.out 0).trans rfl
      have hcz19_1 : wr.cell? ⟨gb378, 1, none⟩ = some (.slice A0_1 l0_1.length c0_1) := (kC BK378.out 1).trans rfl
      have hfz19_0 := kF BK378.out 0
      have hfz19_1 := kF BK378.out 1
      go_wp2
      go_ret2
      exact ⟨by first | rfl | (simp [errW_none, errW_some] <;> rfl) | (simp [*, errW_none, errW_some] <;> rfl), by repeat (first | (with_reducible first | exact HB.out | apply bA | apply bN | apply bD | refine bS ?_ GE378.out) | exact HB.out)⟩
     ·replace c18 := Bool.eq_false_iff.mpr c18
      subst c18
      have H1 : (some (x4_1, true)) = some (r1, r2) := by rw [if_neg (show ¬ (false = true) by decide)] at H; exact H
      clear H
      have H := H1
      clear H1
      simp only [Option.some.injEq, Prod.mk.injEq] at H
      obtain ⟨rfl, rfl⟩ := H
      have hcz20_0 : wr.cell? ⟨gb378, 0, none⟩ = some (.bool false) := (kC BK378.out 0).trans rfl
      have hcz20_1 : wr.cell? ⟨gb378, 1, none⟩ = some (.slice A0_1 l0_1.length c0_1) := (kC BK378.out 1).trans rfl
      have hfz20_0 := kF BK378.out 0
      have hfz20_1 := kF BK378.out 1
      go_wp2
      go_ret2
      exact ⟨by first | rfl | (simp [errW_none, errW_some] <;> rfl) | (simp [*, errW_none, errW_some] <;> rfl), by repeat (first | (with_reducible first | exact HB.out | apply bA | apply bN | apply bD | refine bS ?_ GE378.out) | exact HB.out)⟩

/-! ### octroiref01_Sum: function 16 -/
def octroiref01_Sum.l0 : Nat → List Int → Int → Bool → List Int → Option (Int × Int)
 | 0, _, _, _, _ => none
 | k + 1, x0, x5, x386000, x386001 => if x5 < (x0.length : Int) then (if 0 ≤ x5 then ((octroiref01_May.f (rd x0 x5)).bind fun t389 => (if t389 = true then ((octroiref01_Of.f k (rd x0 x5)).bind fun bt391 => ((octroiref01_Add.f k x386000 x386001 bt391.1 bt391.2).bind fun bt395 => (octroiref01_Sum.l0 k x0 (wrap64 (x5 + 1)) bt395.1 bt395.2))) else (some (0, 2)))) else (none)) else ((octroiref01_Int.f k x386000 x386001).bind fun bt386 => (if bt386.2 = true then (some (bt386.1, 0)) else (some (0, 3))))
def octroiref01_Sum.f (k : Nat) (l0 : List Int) : Option (Int × Int) := octroiref01_Sum.l0 k l0 0 false ([] : List Int)
def octroiref01_Sum.T7 : Bool × List (List Nat × List Nat) := (true, [([], []), ([], []), ([], []), ([1, 2], [1, 2]), ([3], [3]), ([4], [4]), ([0, 5, 5], [0, 5]), ([6, 6, 0, 1, 2, 3, 4, 5, 6], [6])])
def octroiref01_Sum.B7 : List Nat := [0, 0, 0, 6, 14, 30, 63, 127]
theorem octroiref01_Sum.tab7 : rtab .any (opsOf Tryz.f16 7) = octroiref01_Sum.T7 := by kernel_rfl
theorem octroiref01_Sum.bits7 : waitsOk octroiref01_Sum.T7.2 octroiref01_Sum.B7 = true := by kernel_rfl
set_option maxHeartbeats 8000000 in
set_option maxRecDepth 100000 in
theorem octroiref01_Sum.calls (k : Nat) (A0 : Option Addr) (c0 : Nat) (l0 : List Int) (r1 : Int) (r2 : Int) (w : World) (hr0 : Kd.C (Kd.int .i64) w A0 l0.length l0) (hc0 : l0.length ≤ c0) (h : octroiref01_Sum.f k l0 = some (r1, r2)) :
  Calls Tryz.prog 16 #[.slice A0 l0.length c0] w fun e w' => e = .returned (.tuple #[.int .i64 r1, .int .i64 r2]) ∧ Below w.heap.size w w' := by
 have hu79 := Tryz.underlying79
 have HR0 := A0m hr0
 have HC0 := A0m hc0
 clear hr0 hc0
 have HB := A0m (Below.refl w.heap.size w)
 have H : (octroiref01_Sum.l0 k l0 0 false ([] : List Int)) = some (r1, r2) := h
 clear h
 have H' := A0m H
 clear H
 go_enter Tryz.func16, Tryz.ntmps16
 go_wp2_with (first | ((with_reducible refine gate_dst (N := 4) rfl ?_); refine box_event ?hg (N := 4) ?hd (cs := #[.bool false, .slice none 0 0]) (t := 79) ?hr ?_; (case hd => rfl); (case hg => rfl); (case hr => first | (go_simp; done) | (go_simp; rfl)); intro gb385 hg w2 hbox hb; have n0_ := A0m (below_step (by repeat (first | (with_reducible first | exact HB.out | apply bA | apply bN | apply bD) | exact HB.out)) hb); have n1_ := A0m (hbox); have n2_ := A0m ((by rw [hg]; exact (below_size (by repeat (first | (with_reducible first | exact HB.out | apply bA | apply bN | apply bD) | exact HB.out))) : w.heap.size ≤ gb385)); have n3_ := A0m ((by rw [hg]; exact (below_size (by repeat (first | (with_reducible first | exact HB.out | apply bA | apply bN | apply bD) | exact HB.out))) : w.heap.size ≤ gb385)); clear HB; have HB := n0_; have BK385 := n1_; have GW385 := n2_; have GE385 := n3_; clear n0_ n1_ n2_ n3_; clear hb hbox hg; have hcz3_0 : w2.cell? ⟨gb385, 0, none⟩ = some (.bool false) := (kC BK385.out 0).trans rfl; have hcz3_1 : w2.cell? ⟨gb385, 1, none⟩ = some (.slice none 0 0) := (kC BK385.out 1).trans rfl; have hfz3_0 := kF BK385.out 0; have hfz3_1 := kF BK385.out 1))
 go_loopg [5] k (fun kq v5 w' => ∃ (x5_1 : Int) (x386000_1 : Bool) (x386001_1 : List Int) (u386001 : Value), v5 = .int .i64 x5_1 ∧ Aside0 (octroiref01_Sum.l0 kq l0 x5_1 x386000_1 x386001_1 = some (r1, r2)) ∧ Aside0 (kq ≤ k) ∧ Aside0 (Kd.R (Kd.int .i64) 3 w' w.heap.size (fun _ => True) u386001 x386001_1) ∧ Aside0 (w'.heap[gb385]? = some (.cells #[.bool x386000_1, u386001] 79 (0, 0))) ∧ Aside0 (Below w.heap.size w w'))
 case atStart => exact ⟨(0), (false), (([] : List Int)), (.slice none 0 0), (by first | rfl | (simp; done) | (simp [*]; done)), H', ⟨Nat.le_refl _⟩, ⟨by first | exact Kd.R_nil _ _ _ _ _ | exact Kd.N_nil _ _ _ _ _ | exact Kd.V_nil _ _ _ _ _ | exact Kd.Q_nil _ _ _ _ _ | exact Kd.S_nil _ _ _ _ _⟩, ⟨by (with_reducible repeat (first | refine kN ?_ _ | refine kD ?_ | refine kA ?_ _)); refine blk_put (cs := #[.bool false, .slice none 0 0]) ?_ 1 _ rfl; (with_reducible repeat (first | refine kN ?_ _ | refine kD ?_ | refine kA ?_ _)); refine blk_put (cs := #[.bool false, .slice none 0 0]) ?_ 0 _ rfl; (with_reducible repeat (first | refine kN ?_ _ | refine kD ?_ | refine kA ?_ _)); exact BK385.out⟩, ⟨by repeat (first | (with_reducible first | exact HB.out | apply bA | apply bN | apply bD | refine bS ?_ GE385.out) | exact HB.out)⟩⟩
 case round =>
  clear H'
  try clear c1
  try clear p2
  try clear hcz3_0
  try clear hcz3_1
  try clear hfz3_0
  try clear hfz3_1
  obtain ⟨x5_1, x386000_1, x386001_1, u386001, rfl, HA, HK1, HO_386001, BK385, HB⟩ := hrel
  cases gk with
  | zero => exact absurd HA.out (by simp [octroiref01_Sum.l0])
  | succ k1 =>
   have H := HA.out
   clear HA
   simp only [octroiref01_Sum.l0] at H
   by_cases c4 : x5_1 < (l0.length : Int)
   ·rw [if_pos c4] at H
    have c4b0 : decide (x5_1 < (l0.length : Int)) = true := decide_eq_true c4
    clear c4
    by_cases c5 : 0 ≤ x5_1
    ·rw [if_pos c5] at H
     have c5b0 : decide (0 ≤ x5_1) = true := decide_eq_true c5
     clear c5
     replace H := Option.bind_eq_some_iff.mp H
     obtain ⟨t389, A60, H⟩ := H
     replace H : (if t389 = true then ((octroiref01_Of.f k1 (rd l0 x5_1)).bind fun bt391 => ((octroiref01_Add.f k1 x386000_1 x386001_1 bt391.1 bt391.2).bind fun bt395 => (octroiref01_Sum.l0 k1 l0 (wrap64 (x5_1 + 1)) bt395.1 bt395.2))) else (some (0, 2))) = some (r1, r2) := H
     have A6 := A0m A60
     clear A60
     by_cases c7 : t389 = true
     ·subst c7
      have H1 : ((octroiref01_Of.f k1 (rd l0 x5_1)).bind fun bt391 => ((octroiref01_Add.f k1 x386000_1 x386001_1 bt391.1 bt391.2).bind fun bt395 => (octroiref01_Sum.l0 k1 l0 (wrap64 (x5_1 + 1)) bt395.1 bt395.2))) = some (r1, r2) := by rw [if_pos rfl] at H; exact H
      clear H
      have H := H1
      clear H1
      replace H := Option.bind_eq_some_iff.mp H
      obtain ⟨⟨t391, t392⟩, A80, H⟩ := H
      replace H : ((octroiref01_Add.f k1 x386000_1 x386001_1 t391 t392).bind fun bt395 => (octroiref01_Sum.l0 k1 l0 (wrap64 (x5_1 + 1)) bt395.1 bt395.2)) = some (r1, r2) := H
      have A8 := A0m A80
      clear A80
      replace H := Option.bind_eq_some_iff.mp H
      obtain ⟨⟨t395, t396⟩, A90, H⟩ := H
      replace H : (octroiref01_Sum.l0 k1 l0 (wrap64 (x5_1 + 1)) t395 t396) = some (r1, r2) := H
      have A9 := A0m A90
      clear A90
      have H' := A0m H
      clear H
      have p388 : 0 ≤ (x5_1 : Int) := dT (by first | (with_reducible assumption) | assumption)
      have q388 : x5_1 < (l0.length : Int) := dT (by first | (with_reducible assumption) | assumption)
      obtain ⟨ad388, e388, hx388_0⟩ := Kd.at_int HR0.out x5_1 p388 q388
      cases e388
      replace hx388_0 := (HB.out.cell (wL w _ hx388_0)).trans hx388_0
      replace p388 := eq_true p388
      replace q388 := eq_true q388
      try go_wp2_with (first | ((with_reducible refine gate_callee (f := 32) rfl ?_); refine goesL_ (some 19) rfl rfl Tryz.func32 (by kernel_rfl) rfl #[.int .i64 (rd l0 x5_1)] rfl (by (try simp only [List.map_toArray, List.map_cons, List.map_nil]); first | done | rfl | (simp only [List.length_drop, List.length_take]; rfl)) ?_; (with_reducible refine (octroiref01_May.calls (rd l0 x5_1) true _ A6.out).mono ?_); rintro e w' ⟨rfl, ⟨nd, rfl⟩⟩; refine ⟨_, rfl, ?_⟩; (try (rw [drewN_self wr]; generalize hq_ : World.drewN wr _ = wr; have n0_ : Aside0 (Kd.R (Kd.int .i64) 3 wr w.heap.size (fun _ => True) u386001 x386001_1) := ⟨by rw [← hq_]; exact (by (with_reducible repeat (first | apply rA | apply rN | apply rD)); exact HO_386001.out)⟩; have n1_ : Aside0 (wr.heap[gb385]? = some (.cells #[.bool x386000_1, u386001] 79 (0, 0))) := ⟨by rw [← hq_]; exact (by (with_reducible repeat (first | refine kN ?_ _ | refine kD ?_ | refine kA ?_ _)); exact BK385.out)⟩; have n2_ : Aside0 (Below w.heap.size w wr) := ⟨by rw [← hq_]; exact (by repeat (first | (with_reducible first | exact HB.out | apply bA | apply bN | apply bD | refine bS ?_ GE385.out) | exact HB.out))⟩; clear HO_386001 BK385 HB hq_; have HO_386001 := n0_; have BK385 := n1_; have HB := n2_; clear n0_ n1_ n2_))))
      have n0_ := A0m (rD HO_386001.out)
      have n1_ := A0m (kD BK385.out)
      have n2_ := A0m (bD HB.out)
      clear HO_386001
      clear BK385
      clear HB
      have HO_386001 := n0_
      have BK385 := n1_
      have HB := n2_
      clear n0_ n1_ n2_
      have p390 : 0 ≤ (x5_1 : Int) := dT (by first | (with_reducible assumption) | assumption)
      have q390 : x5_1 < (l0.length : Int) := dT (by first | (with_reducible assumption) | assumption)
      obtain ⟨ad390, e390, hx390_0⟩ := Kd.at_int HR0.out x5_1 p390 q390
      have hw390_0 := hx390_0
      obtain rfl : ad388 = ad390 := (by injection e390)
      replace hx390_0 := (HB.out.cell (wL w _ hx390_0)).trans hx390_0
      replace p390 := eq_true p390
      replace q390 := eq_true q390
      refine start_ (n := 8) (S := fun w' => w'.cell? ⟨gb385, 0, none⟩ = some (.bool x386000_1) ∧ w'.cell? ⟨gb385, 1, none⟩ = some (u386001) ∧ w'.cell? (ad388.add (x5_1).toNat) = some (.int .i64 (rd l0 x5_1))) (ds := [7]) #[false, false, false, false, false, false, false, false] (by kernel_rfl) rfl rfl ⟨(kC BK385.out 0).trans rfl, (kC BK385.out 1).trans rfl, ((HB.out.cell (wL w _ hw390_0)).trans hw390_0)⟩ (fun hHeld => ?_); refine with_tabW octroiref01_Sum.tab7 octroiref01_Sum.bits7 (fun HT_ HW_ => ?_)
      generalize wr.drew = w10 at HO_386001 BK385 HB hx390_0 hHeld ⊢
      refine pure_ (i := 1) (N := some 22) (v := ?_) (a' := ?_) #[false, true, false, false, false, false, false, false] rfl rfl (any_of HT_.out (by kernel_rfl)) (fun _ _ _ h => h) (Or.inl ⟨by rfl, ?_⟩) ?_ ?_
      rotate_left
      ·intro w'
       go_simp
       with_reducible rfl
      rotate_left
      ·simp only [Act.put, sT, sZ, sS, i64_w, i32_w]
       rfl
      refine pure_ (i := 2) (N := some 23) (v := ?_) (a' := ?_) #[false, true, true, false, false, false, false, false] rfl rfl (any_of HT_.out (by kernel_rfl)) (fun _ _ _ h => h) (Or.inl ⟨by rfl, ?_⟩) ?_ ?_
      rotate_left
      ·intro w'
       go_simp
       with_reducible rfl
      rotate_left
      ·simp only [Act.put, sT, sZ, sS, i64_w, i32_w]
       rfl
      refine pure_ (i := 3) (N := some 24) (v := ?_) (a' := ?_) #[false, true, true, true, false, false, false, false] rfl rfl (any_of HT_.out (by kernel_rfl)) (fun _ _ _ h => h) (Or.inl ⟨by rfl, ?_⟩) ?_ ?_
      rotate_left
      ·intro w'
       go_simp
       with_reducible rfl
      rotate_left
      ·simp only [Act.put, sT, sZ, sS, i64_w, i32_w]
       rfl
      refine take_ (i := 0) (N := some 21) (v := ?_) (a' := ?_) #[true, true, true, true, false, false, false, false] rfl rfl (take_ofW HT_.out HW_.out (by kernel_rfl)) (fun _ _ _ h => h) (Or.inl ⟨by rfl, ?_⟩) hHeld ?_ ?_
      rotate_left
      ·rintro w' ⟨s0, s1, s2⟩
       go_simp
       with_reducible rfl
      rotate_left
      ·simp only [Act.put, sT, sZ, sS, i64_w, i32_w]
       rfl
      refine take_ (i := 4) (N := some 25) (v := ?_) (a' := ?_) #[true, true, true, true, true, false, false, false] rfl rfl (take_ofW HT_.out HW_.out (by kernel_rfl)) (fun _ _ _ h => h) (Or.inl ⟨by rfl, ?_⟩) hHeld ?_ ?_
      rotate_left
      ·rintro w' ⟨s0, s1, s2⟩
       go_simp
       with_reducible rfl
      rotate_left
      ·simp only [Act.put, sT, sZ, sS, i64_w, i32_w]
       rfl
      refine one_ (i := 5) (N := some 26) #[true, true, true, true, true, true, false, false] rfl rfl (one_of HT_.out (by kernel_rfl)) (by decide) (fun K hK => ?_)
      refine goes_ Tryz.func34 (by kernel_rfl) rfl #[.int .i64 (rd l0 x5_1)] (by rfl) rfl rfl (by (try simp only [List.map_toArray, List.map_cons, List.map_nil]); first | done | rfl | (simp only [List.length_drop, List.length_take]; rfl)) ?_
      with_reducible refine (octroiref01_Of.calls k1 (rd l0 x5_1) t391 t392 _ A8.out).mono ?_
      rintro e w11 ⟨v393, rfl, ho0, hb⟩
      refine ⟨_, rfl, ?_⟩
      have n0_ := A0m (Kd.R_elder' (by (with_reducible repeat (first | apply rA | apply rN | apply rD)); exact HO_386001.out) (Kd.R_base ho0) hb)
      have n1_ := A0m (Kd.R_lower (Kd.R_new' ho0 (Kd.R_lt (by (with_reducible repeat (first | apply rA | apply rN | apply rD)); exact HO_386001.out))) (below_size (by repeat (first | (with_reducible first | exact HB.out | apply bA | apply bN | apply bD | refine bS ?_ GE385.out) | exact HB.out))))
      have n2_ := A0m (blk_below (g := gb385) (o := .cells #[.bool x386000_1, u386001] 79 (0, 0)) (by (with_reducible repeat (first | refine kN ?_ _ | refine kD ?_ | refine kA ?_ _)); exact BK385.out) hb)
      have n3_ := A0m (below_step (by repeat (first | (with_reducible first | exact HB.out | apply bA | apply bN | apply bD | refine bS ?_ GE385.out) | exact HB.out)) hb)
      clear HO_386001
      clear BK385
      clear HB
      have HO_386001 := n0_
      have HO394 := n1_
      have BK385 := n2_
      have HB := n3_
      clear n0_ n1_ n2_ n3_
      (try clear hb)
      (try clear hb2)
      (try clear hk)
      (try clear hi)
      (try clear ho0)
      obtain ⟨Ao12, co12, eo12⟩ := Kd.R_slice HO_386001.out
      (first | subst eo12 | (injection eo12 with f1_ f2_ f3_; have f4_ := f1_.symm; have f5_ := f3_.symm; clear f1_ f2_ f3_; subst f4_; subst f5_))
      obtain ⟨Ao13, co13, eo13⟩ := Kd.R_slice HO394.out
      (first | subst eo13 | (injection eo13 with f1_ f2_ f3_; have f4_ := f1_.symm; have f5_ := f3_.symm; clear f1_ f2_ f3_; subst f4_; subst f5_))
      refine hK.out _ _ ⟨(kC BK385.out 0).trans rfl, (kC BK385.out 1).trans rfl, ((HB.out.cell (wL w _ hw390_0)).trans hw390_0)⟩ (fun hHeld => ?_)
      clear hK K
      refine norm_ (a' := ?_) ?_ ?_
      rotate_left
      ·show Act.put _ (some 26) _ = _
       simp only [Act.put, sT, sZ, sS, i64_w, i32_w]
       rfl
      refine one_ (i := 6) (N := some 27) #[true, true, true, true, true, true, true, false] rfl rfl (one_of HT_.out (by kernel_rfl)) (by decide) (fun K hK => ?_)
      refine goes_ Tryz.func33 (by kernel_rfl) rfl #[.agg #[.bool x386000_1, .slice Ao12 x386001_1.length co12], .agg #[.bool t391, .slice Ao13 t392.length co13]] (by rfl) rfl rfl (by (try simp only [List.map_toArray, List.map_cons, List.map_nil]); first | done | rfl | (simp only [List.length_drop, List.length_take]; rfl)) ?_
      with_reducible refine (octroiref01_Add.calls k1 x386000_1 _ _ x386001_1 t391 _ _ t392 t395 t396 _ ?side1 ?side2 ?side3 ?side4 A9.out).mono ?_
      (case side1 => repeat (first | exact (Kd.R_reads' HO_386001.out).2.2 | (with_reducible refine Kd.C_alloc ?_ _) | (with_reducible refine Kd.C_drewN ?_ _) | (with_reducible refine Kd.C_drew ?_)))
      (case side2 => exact (Kd.R_reads' HO_386001.out).2.1)
      (case side3 => repeat (first | exact (Kd.R_reads' HO394.out).2.2 | (with_reducible refine Kd.C_alloc ?_ _) | (with_reducible refine Kd.C_drewN ?_ _) | (with_reducible refine Kd.C_drew ?_)))
      (case side4 => exact (Kd.R_reads' HO394.out).2.1)
      rintro e w14 ⟨v397, rfl, ho0, hb⟩
      refine ⟨_, rfl, ?_⟩
      have n0_ := A0m (Kd.R_elder' (by (with_reducible repeat (first | apply rA | apply rN | apply rD)); exact HO_386001.out) (Kd.R_base ho0) hb)
      have n1_ := A0m (Kd.R_elder' (by (with_reducible repeat (first | apply rA | apply rN | apply rD)); exact HO394.out) (Kd.R_base ho0) hb)
      have n2_ := A0m (Kd.R_lower (Kd.R_new' (Kd.R_new' ho0 (Kd.R_lt (by (with_reducible repeat (first | apply rA | apply rN | apply rD)); exact HO_386001.out))) (Kd.R_lt (by (with_reducible repeat (first | apply rA | apply rN | apply rD)); exact HO394.out))) (below_size (by repeat (first | (with_reducible first | exact HB.out | apply bA | apply bN | apply bD | refine bS ?_ GE385.out) | exact HB.out))))
      have n3_ := A0m (blk_below (g := gb385) (o := .cells #[.bool x386000_1, .slice Ao12 x386001_1.length co12] 79 (0, 0)) (by (with_reducible repeat (first | refine kN ?_ _ | refine kD ?_ | refine kA ?_ _)); exact BK385.out) hb)
      have n4_ := A0m (below_step (by repeat (first | (with_reducible first | exact HB.out | apply bA | apply bN | apply bD | refine bS ?_ GE385.out) | exact HB.out)) hb)
      clear HO_386001
      clear HO394
      clear BK385
      clear HB
      have HO_386001 := n0_
      have HO394 := n1_
      have HO398 := n2_
      have BK385 := n3_
      have HB := n4_
      clear n0_ n1_ n2_ n3_ n4_
      (try clear hb)
      (try clear hb2)
      (try clear hk)
      (try clear hi)
      (try clear ho0)
      obtain ⟨Ao16, co16, eo16⟩ := Kd.R_slice HO398.out
      (first | subst eo16 | (injection eo16 with f1_ f2_ f3_; have f4_ := f1_.symm; have f5_ := f3_.symm; clear f1_ f2_ f3_; subst f4_; subst f5_))
      refine hK.out _ _ ⟨(kC BK385.out 0).trans rfl, (kC BK385.out 1).trans rfl, ((HB.out.cell (wL w _ hw390_0)).trans hw390_0)⟩ (fun hHeld => ?_)
      clear hK K
      refine norm_ (a' := ?_) ?_ ?_
      rotate_left
      ·show Act.put _ (some 27) _ = _
       simp only [Act.put, sT, sZ, sS, i64_w, i32_w]
       rfl
      refine last_ (i := 7) (N := none) #[true, true, true, true, true, true, true, true] rfl rfl (one_of HT_.out (by kernel_rfl)) (by decide) (fun K hK => ?_)
      have hs15 : w14.cell? ⟨gb385, 0, none⟩ = some (.bool x386000_1) := (kC BK385.out 0).trans rfl
      have hfs15 := kF BK385.out 0
      have hs17 : w14.cell? ⟨gb385, 1, none⟩ = some (.slice Ao12 x386001_1.length co12) := (kC BK385.out 1).trans rfl
      have hfs17 := kF BK385.out 1
      refine skip_ (w1 := ?_) (by rfl) rfl ?_ ?_
      rotate_left
      ·go_simp
       rfl
      refine hK.out _ _ ?_
      clear hK K
      refine done_ (done_of HT_.out (by kernel_rfl)) ?_
      try go_wp2
      go_roundg k1
      case measure => have := HK1.out; omega
      case rel => exact ⟨(wrap64 (x5_1 + 1)), (t395), (t396), (.slice Ao16 t396.length co16), (by first | rfl | (simp; done) | (simp [*]; done)), H', ⟨by have := HK1.out; omega⟩, ⟨by (with_reducible repeat (first | apply rA | apply rN | apply rD)); exact Kd.R_mono (Kd.R_far (p := ⟨gb385, 1, none⟩) (Kd.R_far (p := ⟨gb385, 0, none⟩) (Kd.R_types HO398.out BK385.out (by decide)) (fun _ hk => hk.2) (.bool t395)) (fun _ hk => hk.2) (.slice Ao16 t396.length co16)) (fun _ hk => trivial)⟩, ⟨by (with_reducible repeat (first | refine kN ?_ _ | refine kD ?_ | refine kA ?_ _)); refine blk_put (cs := #[.bool t395, .slice Ao12 x386001_1.length co12]) ?_ 1 _ rfl; (with_reducible repeat (first | refine kN ?_ _ | refine kD ?_ | refine kA ?_ _)); refine blk_put (cs := #[.bool x386000_1, .slice Ao12 x386001_1.length co12]) ?_ 0 _ rfl; (with_reducible repeat (first | refine kN ?_ _ | refine kD ?_ | refine kA ?_ _)); exact BK385.out⟩, ⟨by repeat (first | (with_reducible first | exact HB.out | apply bA | apply bN | apply bD | refine bS ?_ GE385.out) | exact HB.out)⟩⟩
     ·replace c7 := Bool.eq_false_iff.mpr c7
      subst c7
      have H1 : (some (0, 2)) = some (r1, r2) := by rw [if_neg (show ¬ (false = true) by decide)] at H; exact H
      clear H
      have H := H1
      clear H1
      simp only [Option.some.injEq, Prod.mk.injEq] at H
      obtain ⟨rfl, rfl⟩ := H
      have p388 : 0 ≤ (x5_1 : Int) := dT (by first | (with_reducible assumption) | assumption)
      have q388 : x5_1 < (l0.length : Int) := dT (by first | (with_reducible assumption) | assumption)
      obtain ⟨ad388, e388, hx388_0⟩ := Kd.at_int HR0.out x5_1 p388 q388
      cases e388
      replace hx388_0 := (HB.out.cell (wL w _ hx388_0)).trans hx388_0
      replace p388 := eq_true p388
      replace q388 := eq_true q388
      go_wp2_with (first | ((with_reducible refine gate_callee (f := 32) rfl ?_); refine goesL_ (some 19) rfl rfl Tryz.func32 (by kernel_rfl) rfl #[.int .i64 (rd l0 x5_1)] rfl (by (try simp only [List.map_toArray, List.map_cons, List.map_nil]); first | done | rfl | (simp only [List.length_drop, List.length_take]; rfl)) ?_; (with_reducible refine (octroiref01_May.calls (rd l0 x5_1) false _ A6.out).mono ?_); rintro e w' ⟨rfl, ⟨nd, rfl⟩⟩; refine ⟨_, rfl, ?_⟩))
      go_ret2
      exact ⟨by first | rfl | (simp [errW_none, errW_some] <;> rfl) | (simp [*, errW_none, errW_some] <;> rfl), by repeat (first | (with_reducible first | exact HB.out | apply bA | apply bN | apply bD | refine bS ?_ GE385.out) | exact HB.out)⟩
    ·rw [if_neg c5] at H
     exact absurd H (by simp)
   ·rw [if_neg c4] at H
    have c4b0 : decide (x5_1 < (l0.length : Int)) = false := decide_eq_false c4
    clear c4
    replace H := Option.bind_eq_some_iff.mp H
    obtain ⟨⟨t386, t387⟩, A180, H⟩ := H
    replace H : (if t387 = true then (some (t386, 0)) else (some (0, 3))) = some (r1, r2) := H
    have A18 := A0m A180
    clear A180
    by_cases c19 : t387 = true
    ·subst c19
     have H1 : (some (t386, 0)) = some (r1, r2) := by rw [if_pos rfl] at H; exact H
     clear H
     have H := H1
     clear H1
     simp only [Option.some.injEq, Prod.mk.injEq] at H
     obtain ⟨rfl, rfl⟩ := H
     have hcz20_0 : wr.cell? ⟨gb385, 0, none⟩ = some (.bool x386000_1) := (kC BK385.out 0).trans rfl
     have hcz20_1 : wr.cell? ⟨gb385, 1, none⟩ = some (u386001) := (kC BK385.out 1).trans rfl
     have hfz20_0 := kF BK385.out 0
     have hfz20_1 := kF BK385.out 1
     obtain ⟨Ao21, co21, eo21⟩ := Kd.R_slice HO_386001.out
     subst eo21
     go_wp2_with (first | ((with_reducible refine gate_callee (f := 35) rfl ?_); refine goesL_ (some 30) rfl rfl Tryz.func35 (by kernel_rfl) rfl #[.agg #[.bool x386000_1, .slice Ao21 x386001_1.length co21]] rfl (by (try simp only [List.map_toArray, List.map_cons, List.map_nil]); first | done | rfl | (simp only [List.length_drop, List.length_take]; rfl)) ?_; (with_reducible refine (octroiref01_Int.calls k1 x386000_1 _ _ x386001_1 t386 true _ ?side1 ?side2 A18.out).mono ?_); (case side1 => repeat (first | exact (Kd.R_reads' HO_386001.out).2.2 | (with_reducible refine Kd.C_alloc ?_ _) | (with_reducible refine Kd.C_drewN ?_ _) | (with_reducible refine Kd.C_drew ?_))); (case side2 => exact (Kd.R_reads' HO_386001.out).2.1); rintro e w22 ⟨rfl, hb⟩; refine ⟨_, rfl, ?_⟩; have n0_ := A0m (Kd.R_below (by (with_reducible repeat (first | apply rA | apply rN | apply rD)); exact HO_386001.out) hb); have n1_ := A0m (blk_below (g := gb385) (o := .cells #[.bool x386000_1, .slice Ao21 x386001_1.length co21] 79 (0, 0)) (by (with_reducible repeat (first | refine kN ?_ _ | refine kD ?_ | refine kA ?_ _)); exact BK385.out) hb); have n2_ := A0m (below_step (by repeat (first | (with_reducible first | exact HB.out | apply bA | apply bN | apply bD | refine bS ?_ GE385.out) | exact HB.out)) hb); clear HO_386001; clear BK385; clear HB; have HO_386001 := n0_; have BK385 := n1_; have HB := n2_; clear n0_ n1_ n2_; (try clear hb); (try clear hb2); (try clear hk); (try clear hi)))
     go_ret2
     exact ⟨by first | rfl | (simp [errW_none, errW_some] <;> rfl) | (simp [*, errW_none, errW_some] <;> rfl), by repeat (first | (with_reducible first | exact HB.out | apply bA | apply bN | apply bD | refine bS ?_ GE385.out) | exact HB.out)⟩
    ·replace c19 := Bool.eq_false_iff.mpr c19
     subst c19
     have H1 : (some (0, 3)) = some (r1, r2) := by rw [if_neg (show ¬ (false = true) by decide)] at H; exact H
     clear H
     have H := H1
     clear H1
     simp only [Option.some.injEq, Prod.mk.injEq] at H
     obtain ⟨rfl, rfl⟩ := H
     have hcz23_0 : wr.cell? ⟨gb385, 0, none⟩ = some (.bool x386000_1) := (kC BK385.out 0).trans rfl
     have hcz23_1 : wr.cell? ⟨gb385, 1, none⟩ = some (u386001) := (kC BK385.out 1).trans rfl
     have hfz23_0 := kF BK385.out 0
     have hfz23_1 := kF BK385.out 1
     obtain ⟨Ao24, co24, eo24⟩ := Kd.R_slice HO_386001.out
     subst eo24
     go_wp2_with (first | ((with_reducible refine gate_callee (f := 35) rfl ?_); refine goesL_ (some 30) rfl rfl Tryz.func35 (by kernel_rfl) rfl #[.agg #[.bool x386000_1, .slice Ao24 x386001_1.length co24]] rfl (by (try simp only [List.map_toArray, List.map_cons, List.map_nil]); first | done | rfl | (simp only [List.length_drop, List.length_take]; rfl)) ?_; (with_reducible refine (octroiref01_Int.calls k1 x386000_1 _ _ x386001_1 t386 false _ ?side1 ?side2 A18.out).mono ?_); (case side1 => repeat (first | exact (Kd.R_reads' HO_386001.out).2.2 | (with_reducible refine Kd.C_alloc ?_ _) | (with_reducible refine Kd.C_drewN ?_ _) | (with_reducible refine Kd.C_drew ?_))); (case side2 => exact (Kd.R_reads' HO_386001.out).2.1); rintro e w25 ⟨rfl, hb⟩; refine ⟨_, rfl, ?_⟩; have n0_ := A0m (Kd.R_below (by (with_reducible repeat (first | apply rA | apply rN | apply rD)); exact HO_386001.out) hb); have n1_ := A0m (blk_below (g := gb385) (o := .cells #[.bool x386000_1, .slice Ao24 x386001_1.length co24] 79 (0, 0)) (by (with_reducible repeat (first | refine kN ?_ _ | refine kD ?_ | refine kA ?_ _)); exact BK385.out) hb); have n2_ := A0m (below_step (by repeat (first | (with_reducible first | exact HB.out | apply bA | apply bN | apply bD | refine bS ?_ GE385.out) | exact HB.out)) hb); clear HO_386001; clear BK385; clear HB; have HO_386001 := n0_; have BK385 := n1_; have HB := n2_; clear n0_ n1_ n2_; (try clear hb); (try clear hb2); (try clear hk); (try clear hi)))
     go_ret2
     exact ⟨by first | rfl | (simp [errW_none, errW_some] <;> rfl) | (simp [*, errW_none, errW_some] <;> rfl), by repeat (first | (with_reducible first | exact HB.out | apply bA | apply bN | apply bD | refine bS ?_ GE385.out) | exact HB.out)⟩

end Go.Proofs.YtnaglnifpejpjaaGreatDoor.XEvalRuns
